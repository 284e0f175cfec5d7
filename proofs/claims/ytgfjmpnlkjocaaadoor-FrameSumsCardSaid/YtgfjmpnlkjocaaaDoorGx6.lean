-- Written by stubprint.py (wip/) of this work, over the kit's print.py; parts by hand.
import Derived.Test.YtgfjmpnlkjocaaaDoorGx0
import Derived.Test.YtgfjmpnlkjocaaaDoorGx1
import Derived.Test.YtgfjmpnlkjocaaaDoorGx2
import Derived.Test.YtgfjmpnlkjocaaaDoorGx3
import Derived.Test.YtgfjmpnlkjocaaaDoorGx4
import Derived.Test.YtgfjmpnlkjocaaaDoorGx5
namespace Go.Proofs.YtgfjmpnlkjocaaaDoor.G
open Go.RowKit Go.Proofs.YtgfjmpnlkjocaaaDoorW.PrintWords Go.Proofs.YtgfjmpnlkjocaaaDoorW.PrintLast Go.Proofs.YtgfjmpnlkjocaaaDoorW.PrintMore
attribute [local go_sem] max2_int min2_int max_two min_two max_three min_three max_four min_four   -- for this text's walks alone
set_option linter.unusedVariables false
set_option linter.unusedSimpArgs false

/-! ### arrearslaw6_FrameSums: function 3 -/
def arrearslaw6_FrameSums.f (k : Nat) (a0 : Int) (l1 : List Int) : Option (Bool) := if (l1.length : Int) > 6000000 then (some true) else ((arrearslaw6_roomy.f k l1).bind fun t135 => (if 0 ≤ (l1.length : Int) then (if (l1.length : Int) ≤ (t135.length : Int) then ((frame_Sum.f (t135.take ((l1.length : Int) : Int).toNat)).bind fun t142 => ((arrearsref6_Sum.f k l1).bind fun t143 => (if t142 = t143 then ((frame_Extend.f a0 (t135.take ((l1.length : Int) : Int).toNat)).bind fun t148 => ((arrearsref6_Extend.f k a0 l1).bind fun t149 => (if t148 = t149 then ((arrearslaw6_roomy.f k l1).bind fun t150 => ((arrearslaw6_same.f k t135 t150).bind fun t153 => (if t153 = true then ((arrearslaw6_turned.f k t135 (l1.length : Int)).bind fun bt154 => ((frame_Sum.f (bt154.2.take ((l1.length : Int) : Int).toNat)).bind fun t162 => ((arrearsref6_Sum.f k bt154.1).bind fun t163 => (if t162 = t163 then ((frame_Extend.f a0 (bt154.2.take ((l1.length : Int) : Int).toNat)).bind fun t168 => ((arrearsref6_Extend.f k a0 bt154.1).bind fun t169 => (some (t168 == t169)))) else (none))))) else (none)))) else (none)))) else (none)))) else (none)) else (none)))
theorem arrearslaw6_FrameSums.mono : ∀ a0 a1 k, LeO (arrearslaw6_FrameSums.f k a0 a1) (arrearslaw6_FrameSums.f (k + 1) a0 a1) := by
  intro a0 a1 k
  unfold arrearslaw6_FrameSums.f
  repeat' first
      | (with_reducible exact arrearslaw6_roomy.mono _ _)
      | (with_reducible exact arrearslaw6_same.mono _ _ _)
      | (with_reducible exact arrearslaw6_turned.mono _ _ _)
      | (with_reducible exact arrearsref6_Extend.mono _ _ _)
      | (with_reducible exact arrearsref6_Sum.mono _ _)
      | (with_reducible exact LeO.refl _)
      | (with_reducible exact LeO.none _)
      | (with_reducible refine LeO.ite ?_ ?_)
      | (with_reducible refine LeO.bind ?_ (fun _ => ?_))
      | exact arrearslaw6_roomy.mono _ _
      | exact arrearslaw6_same.mono _ _ _
      | exact arrearslaw6_turned.mono _ _ _
      | exact arrearsref6_Extend.mono _ _ _
      | exact arrearsref6_Sum.mono _ _
      | exact LeO.none _
      | refine LeO.ite ?_ ?_
      | refine LeO.bind ?_ (fun _ => ?_)
set_option maxHeartbeats 8000000 in
set_option maxRecDepth 100000 in
theorem arrearslaw6_FrameSums.calls (k : Nat) (a0 : Int) (A1 : Option Addr) (c1 : Nat) (l1 : List Int) (r : Bool) (w : World) (hr1 : Kd.C (Kd.int .u8) w A1 l1.length l1) (hc1 : l1.length ≤ c1) (hL : Laid w) (h : arrearslaw6_FrameSums.f k a0 l1 = some r) :
    Calls Tryd.prog 3 #[.int .u32 a0, .slice A1 l1.length c1] w fun e w' => e = .returned (.bool r) ∧ Below w.heap.size w w' := by
  have HL0_ := Aside0.mk hL
  clear hL
  have HR1 := Aside0.mk hr1
  have HC1 := Aside0.mk hc1
  clear hr1 hc1
  have HB := Aside0.mk (Below.refl w.heap.size w)
  have H : (if (l1.length : Int) > 6000000 then (some true) else ((arrearslaw6_roomy.f k l1).bind fun t135 => (if 0 ≤ (l1.length : Int) then (if (l1.length : Int) ≤ (t135.length : Int) then ((frame_Sum.f (t135.take ((l1.length : Int) : Int).toNat)).bind fun t142 => ((arrearsref6_Sum.f k l1).bind fun t143 => (if t142 = t143 then ((frame_Extend.f a0 (t135.take ((l1.length : Int) : Int).toNat)).bind fun t148 => ((arrearsref6_Extend.f k a0 l1).bind fun t149 => (if t148 = t149 then ((arrearslaw6_roomy.f k l1).bind fun t150 => ((arrearslaw6_same.f k t135 t150).bind fun t153 => (if t153 = true then ((arrearslaw6_turned.f k t135 (l1.length : Int)).bind fun bt154 => ((frame_Sum.f (bt154.2.take ((l1.length : Int) : Int).toNat)).bind fun t162 => ((arrearsref6_Sum.f k bt154.1).bind fun t163 => (if t162 = t163 then ((frame_Extend.f a0 (bt154.2.take ((l1.length : Int) : Int).toNat)).bind fun t168 => ((arrearsref6_Extend.f k a0 bt154.1).bind fun t169 => (some (t168 == t169)))) else (none))))) else (none)))) else (none)))) else (none)))) else (none)) else (none)))) = some r := h
  clear h
  by_cases c3 : (l1.length : Int) > 6000000
  · rw [if_pos c3] at H
    have c3b0 : decide (6000000 < (l1.length : Int)) = true := decide_eq_true c3
    have c3b1 : decide (6000000 < l1.length) = true := decide_eq_true (by omega)
    clear c3
    obtain rfl := Option.some.inj H
    go_enter Tryd.func3, Tryd.ntmps3
    go_wp2
    go_ret
    exact ⟨by first | rfl | (simp [errW_none, errW_some] <;> rfl) | (simp [*, errW_none, errW_some] <;> rfl), by repeat (first | (with_reducible first | exact HB.out | apply below_alloc | apply pw_below_drewN | apply below_drew1) | exact HB.out)⟩
  · rw [if_neg c3] at H
    have c3b0 : decide (6000000 < (l1.length : Int)) = false := decide_eq_false c3
    have c3b1 : decide (6000000 < l1.length) = false := decide_eq_false (by omega)
    clear c3
    replace H := Option.bind_eq_some_iff.mp H
    obtain ⟨t135, A40, H⟩ := H
    replace H : (if 0 ≤ (l1.length : Int) then (if (l1.length : Int) ≤ (t135.length : Int) then ((frame_Sum.f (t135.take ((l1.length : Int) : Int).toNat)).bind fun t142 => ((arrearsref6_Sum.f k l1).bind fun t143 => (if t142 = t143 then ((frame_Extend.f a0 (t135.take ((l1.length : Int) : Int).toNat)).bind fun t148 => ((arrearsref6_Extend.f k a0 l1).bind fun t149 => (if t148 = t149 then ((arrearslaw6_roomy.f k l1).bind fun t150 => ((arrearslaw6_same.f k t135 t150).bind fun t153 => (if t153 = true then ((arrearslaw6_turned.f k t135 (l1.length : Int)).bind fun bt154 => ((frame_Sum.f (bt154.2.take ((l1.length : Int) : Int).toNat)).bind fun t162 => ((arrearsref6_Sum.f k bt154.1).bind fun t163 => (if t162 = t163 then ((frame_Extend.f a0 (bt154.2.take ((l1.length : Int) : Int).toNat)).bind fun t168 => ((arrearsref6_Extend.f k a0 bt154.1).bind fun t169 => (some (t168 == t169)))) else (none))))) else (none)))) else (none)))) else (none)))) else (none)) else (none)) = some r := H
    have A4 := Aside0.mk A40
    clear A40
    by_cases c5 : 0 ≤ (l1.length : Int)
    · rw [if_pos c5] at H
      have c5b0 := eq_true c5
      have c5b1 : decide (0 ≤ (l1.length : Int)) = true := decide_eq_true c5
      clear c5
      by_cases c6 : (l1.length : Int) ≤ (t135.length : Int)
      · rw [if_pos c6] at H
        have c6b0 := eq_true c6
        have c6b1 : decide ((l1.length : Int) ≤ (t135.length : Int)) = true := decide_eq_true c6
        clear c6
        obtain ⟨y138, hy138⟩ : ∃ y_ : List Int, y_ = (t135.take ((l1.length : Int) : Int).toNat) := ⟨_, rfl⟩
        replace H : ((frame_Sum.f y138).bind fun t142 => ((arrearsref6_Sum.f k l1).bind fun t143 => (if t142 = t143 then ((frame_Extend.f a0 (t135.take ((l1.length : Int) : Int).toNat)).bind fun t148 => ((arrearsref6_Extend.f k a0 l1).bind fun t149 => (if t148 = t149 then ((arrearslaw6_roomy.f k l1).bind fun t150 => ((arrearslaw6_same.f k t135 t150).bind fun t153 => (if t153 = true then ((arrearslaw6_turned.f k t135 (l1.length : Int)).bind fun bt154 => ((frame_Sum.f (bt154.2.take ((l1.length : Int) : Int).toNat)).bind fun t162 => ((arrearsref6_Sum.f k bt154.1).bind fun t163 => (if t162 = t163 then ((frame_Extend.f a0 (bt154.2.take ((l1.length : Int) : Int).toNat)).bind fun t168 => ((arrearsref6_Extend.f k a0 bt154.1).bind fun t169 => (some (t168 == t169)))) else (none))))) else (none)))) else (none)))) else (none)))) = some r := by first | (rw [hy138]; with_reducible exact H) | (have H2_ := (Option.bind_some _ _).symm.trans H; rw [hy138]; with_reducible exact H2_) | (have H2_ := (Option.bind_some _ _).symm.trans H; with_reducible exact H2_) | with_reducible exact H | (rw [hy138]; exact H) | exact H
        have Ny138 := Aside0.mk hy138
        clear hy138
        replace H := Option.bind_eq_some_iff.mp H
        obtain ⟨t142, A70, H⟩ := H
        replace H : ((arrearsref6_Sum.f k l1).bind fun t143 => (if t142 = t143 then ((frame_Extend.f a0 (t135.take ((l1.length : Int) : Int).toNat)).bind fun t148 => ((arrearsref6_Extend.f k a0 l1).bind fun t149 => (if t148 = t149 then ((arrearslaw6_roomy.f k l1).bind fun t150 => ((arrearslaw6_same.f k t135 t150).bind fun t153 => (if t153 = true then ((arrearslaw6_turned.f k t135 (l1.length : Int)).bind fun bt154 => ((frame_Sum.f (bt154.2.take ((l1.length : Int) : Int).toNat)).bind fun t162 => ((arrearsref6_Sum.f k bt154.1).bind fun t163 => (if t162 = t163 then ((frame_Extend.f a0 (bt154.2.take ((l1.length : Int) : Int).toNat)).bind fun t168 => ((arrearsref6_Extend.f k a0 bt154.1).bind fun t169 => (some (t168 == t169)))) else (none))))) else (none)))) else (none)))) else (none))) = some r := H
        have A7 := Aside0.mk A70
        clear A70
        replace H := Option.bind_eq_some_iff.mp H
        obtain ⟨t143, A80, H⟩ := H
        replace H : (if t142 = t143 then ((frame_Extend.f a0 (t135.take ((l1.length : Int) : Int).toNat)).bind fun t148 => ((arrearsref6_Extend.f k a0 l1).bind fun t149 => (if t148 = t149 then ((arrearslaw6_roomy.f k l1).bind fun t150 => ((arrearslaw6_same.f k t135 t150).bind fun t153 => (if t153 = true then ((arrearslaw6_turned.f k t135 (l1.length : Int)).bind fun bt154 => ((frame_Sum.f (bt154.2.take ((l1.length : Int) : Int).toNat)).bind fun t162 => ((arrearsref6_Sum.f k bt154.1).bind fun t163 => (if t162 = t163 then ((frame_Extend.f a0 (bt154.2.take ((l1.length : Int) : Int).toNat)).bind fun t168 => ((arrearsref6_Extend.f k a0 bt154.1).bind fun t169 => (some (t168 == t169)))) else (none))))) else (none)))) else (none)))) else (none)) = some r := H
        have A8 := Aside0.mk A80
        clear A80
        by_cases c9 : t142 = t143
        · rw [if_pos c9] at H
          have c9b0 : (t142 == t143) = true := beq_iff_eq.mpr c9
          have c9b1 : (t142 != t143) = false := bne_eq_false_iff_eq.mpr c9
          clear c9
          have c10b0 := eq_true (of_decide_eq_true (by first | (with_reducible assumption) | assumption) : 0 ≤ (l1.length : Int))
          have c11b0 := eq_true (of_decide_eq_true (by first | (with_reducible assumption) | assumption) : (l1.length : Int) ≤ (t135.length : Int))
          have hy144 : y138 = (t135.take ((l1.length : Int) : Int).toNat) := Ny138.out
          replace H : ((frame_Extend.f a0 y138).bind fun t148 => ((arrearsref6_Extend.f k a0 l1).bind fun t149 => (if t148 = t149 then ((arrearslaw6_roomy.f k l1).bind fun t150 => ((arrearslaw6_same.f k t135 t150).bind fun t153 => (if t153 = true then ((arrearslaw6_turned.f k t135 (l1.length : Int)).bind fun bt154 => ((frame_Sum.f (bt154.2.take ((l1.length : Int) : Int).toNat)).bind fun t162 => ((arrearsref6_Sum.f k bt154.1).bind fun t163 => (if t162 = t163 then ((frame_Extend.f a0 (bt154.2.take ((l1.length : Int) : Int).toNat)).bind fun t168 => ((arrearsref6_Extend.f k a0 bt154.1).bind fun t169 => (some (t168 == t169)))) else (none))))) else (none)))) else (none)))) = some r := by first | (rw [hy144]; with_reducible exact H) | (have H2_ := (Option.bind_some _ _).symm.trans H; rw [hy144]; with_reducible exact H2_) | (have H2_ := (Option.bind_some _ _).symm.trans H; with_reducible exact H2_) | with_reducible exact H | (rw [hy144]; exact H) | exact H
          have Ny144 := Aside0.mk hy144
          clear hy144
          replace H := Option.bind_eq_some_iff.mp H
          obtain ⟨t148, A120, H⟩ := H
          replace H : ((arrearsref6_Extend.f k a0 l1).bind fun t149 => (if t148 = t149 then ((arrearslaw6_roomy.f k l1).bind fun t150 => ((arrearslaw6_same.f k t135 t150).bind fun t153 => (if t153 = true then ((arrearslaw6_turned.f k t135 (l1.length : Int)).bind fun bt154 => ((frame_Sum.f (bt154.2.take ((l1.length : Int) : Int).toNat)).bind fun t162 => ((arrearsref6_Sum.f k bt154.1).bind fun t163 => (if t162 = t163 then ((frame_Extend.f a0 (bt154.2.take ((l1.length : Int) : Int).toNat)).bind fun t168 => ((arrearsref6_Extend.f k a0 bt154.1).bind fun t169 => (some (t168 == t169)))) else (none))))) else (none)))) else (none))) = some r := H
          have A12 := Aside0.mk A120
          clear A120
          replace H := Option.bind_eq_some_iff.mp H
          obtain ⟨t149, A130, H⟩ := H
          replace H : (if t148 = t149 then ((arrearslaw6_roomy.f k l1).bind fun t150 => ((arrearslaw6_same.f k t135 t150).bind fun t153 => (if t153 = true then ((arrearslaw6_turned.f k t135 (l1.length : Int)).bind fun bt154 => ((frame_Sum.f (bt154.2.take ((l1.length : Int) : Int).toNat)).bind fun t162 => ((arrearsref6_Sum.f k bt154.1).bind fun t163 => (if t162 = t163 then ((frame_Extend.f a0 (bt154.2.take ((l1.length : Int) : Int).toNat)).bind fun t168 => ((arrearsref6_Extend.f k a0 bt154.1).bind fun t169 => (some (t168 == t169)))) else (none))))) else (none)))) else (none)) = some r := H
          have A13 := Aside0.mk A130
          clear A130
          by_cases c14 : t148 = t149
          · rw [if_pos c14] at H
            have c14b0 : (t148 == t149) = true := beq_iff_eq.mpr c14
            have c14b1 : (t148 != t149) = false := bne_eq_false_iff_eq.mpr c14
            clear c14
            replace H := Option.bind_eq_some_iff.mp H
            obtain ⟨t150, A150, H⟩ := H
            replace H : ((arrearslaw6_same.f k t135 t150).bind fun t153 => (if t153 = true then ((arrearslaw6_turned.f k t135 (l1.length : Int)).bind fun bt154 => ((frame_Sum.f (bt154.2.take ((l1.length : Int) : Int).toNat)).bind fun t162 => ((arrearsref6_Sum.f k bt154.1).bind fun t163 => (if t162 = t163 then ((frame_Extend.f a0 (bt154.2.take ((l1.length : Int) : Int).toNat)).bind fun t168 => ((arrearsref6_Extend.f k a0 bt154.1).bind fun t169 => (some (t168 == t169)))) else (none))))) else (none))) = some r := H
            have A15 := Aside0.mk A150
            clear A150
            replace H := Option.bind_eq_some_iff.mp H
            obtain ⟨t153, A160, H⟩ := H
            replace H : (if t153 = true then ((arrearslaw6_turned.f k t135 (l1.length : Int)).bind fun bt154 => ((frame_Sum.f (bt154.2.take ((l1.length : Int) : Int).toNat)).bind fun t162 => ((arrearsref6_Sum.f k bt154.1).bind fun t163 => (if t162 = t163 then ((frame_Extend.f a0 (bt154.2.take ((l1.length : Int) : Int).toNat)).bind fun t168 => ((arrearsref6_Extend.f k a0 bt154.1).bind fun t169 => (some (t168 == t169)))) else (none))))) else (none)) = some r := H
            have A16 := Aside0.mk A160
            clear A160
            by_cases c17 : t153 = true
            · subst c17
              have H1 : ((arrearslaw6_turned.f k t135 (l1.length : Int)).bind fun bt154 => ((frame_Sum.f (bt154.2.take ((l1.length : Int) : Int).toNat)).bind fun t162 => ((arrearsref6_Sum.f k bt154.1).bind fun t163 => (if t162 = t163 then ((frame_Extend.f a0 (bt154.2.take ((l1.length : Int) : Int).toNat)).bind fun t168 => ((arrearsref6_Extend.f k a0 bt154.1).bind fun t169 => (some (t168 == t169)))) else (none))))) = some r := by rw [if_pos rfl] at H; exact H
              clear H
              have H := H1
              clear H1
              replace H := Option.bind_eq_some_iff.mp H
              obtain ⟨⟨t154, t157⟩, A180, H⟩ := H
              replace H : ((frame_Sum.f (t157.take ((l1.length : Int) : Int).toNat)).bind fun t162 => ((arrearsref6_Sum.f k t154).bind fun t163 => (if t162 = t163 then ((frame_Extend.f a0 (t157.take ((l1.length : Int) : Int).toNat)).bind fun t168 => ((arrearsref6_Extend.f k a0 t154).bind fun t169 => (some (t168 == t169)))) else (none)))) = some r := H
              have A18 := Aside0.mk A180
              clear A180
              have c19b0 := eq_true (of_decide_eq_true (by first | (with_reducible assumption) | assumption) : 0 ≤ (l1.length : Int))
              have c20b0 := eq_true (of_decide_eq_true (by first | (with_reducible assumption) | assumption) : (l1.length : Int) ≤ (t135.length : Int))
              obtain ⟨y158, hy158⟩ : ∃ y_ : List Int, y_ = (t157.take ((l1.length : Int) : Int).toNat) := ⟨_, rfl⟩
              replace H : ((frame_Sum.f y158).bind fun t162 => ((arrearsref6_Sum.f k t154).bind fun t163 => (if t162 = t163 then ((frame_Extend.f a0 (t157.take ((l1.length : Int) : Int).toNat)).bind fun t168 => ((arrearsref6_Extend.f k a0 t154).bind fun t169 => (some (t168 == t169)))) else (none)))) = some r := by first | (rw [hy158]; with_reducible exact H) | (have H2_ := (Option.bind_some _ _).symm.trans H; rw [hy158]; with_reducible exact H2_) | (have H2_ := (Option.bind_some _ _).symm.trans H; with_reducible exact H2_) | with_reducible exact H | (rw [hy158]; exact H) | exact H
              have Ny158 := Aside0.mk hy158
              clear hy158
              replace H := Option.bind_eq_some_iff.mp H
              obtain ⟨t162, A210, H⟩ := H
              replace H : ((arrearsref6_Sum.f k t154).bind fun t163 => (if t162 = t163 then ((frame_Extend.f a0 (t157.take ((l1.length : Int) : Int).toNat)).bind fun t168 => ((arrearsref6_Extend.f k a0 t154).bind fun t169 => (some (t168 == t169)))) else (none))) = some r := H
              have A21 := Aside0.mk A210
              clear A210
              replace H := Option.bind_eq_some_iff.mp H
              obtain ⟨t163, A220, H⟩ := H
              replace H : (if t162 = t163 then ((frame_Extend.f a0 (t157.take ((l1.length : Int) : Int).toNat)).bind fun t168 => ((arrearsref6_Extend.f k a0 t154).bind fun t169 => (some (t168 == t169)))) else (none)) = some r := H
              have A22 := Aside0.mk A220
              clear A220
              by_cases c23 : t162 = t163
              · rw [if_pos c23] at H
                have c23b0 : (t162 == t163) = true := beq_iff_eq.mpr c23
                have c23b1 : (t162 != t163) = false := bne_eq_false_iff_eq.mpr c23
                clear c23
                have c24b0 := eq_true (of_decide_eq_true (by first | (with_reducible assumption) | assumption) : 0 ≤ (l1.length : Int))
                have c25b0 := eq_true (of_decide_eq_true (by first | (with_reducible assumption) | assumption) : (l1.length : Int) ≤ (t135.length : Int))
                have hy164 : y158 = (t157.take ((l1.length : Int) : Int).toNat) := Ny158.out
                replace H : ((frame_Extend.f a0 y158).bind fun t168 => ((arrearsref6_Extend.f k a0 t154).bind fun t169 => (some (t168 == t169)))) = some r := by first | (rw [hy164]; with_reducible exact H) | (have H2_ := (Option.bind_some _ _).symm.trans H; rw [hy164]; with_reducible exact H2_) | (have H2_ := (Option.bind_some _ _).symm.trans H; with_reducible exact H2_) | with_reducible exact H | (rw [hy164]; exact H) | exact H
                have Ny164 := Aside0.mk hy164
                clear hy164
                replace H := Option.bind_eq_some_iff.mp H
                obtain ⟨t168, A260, H⟩ := H
                replace H : ((arrearsref6_Extend.f k a0 t154).bind fun t169 => (some (t168 == t169))) = some r := H
                have A26 := Aside0.mk A260
                clear A260
                replace H := Option.bind_eq_some_iff.mp H
                obtain ⟨t169, A270, H⟩ := H
                replace H : (some (t168 == t169)) = some r := H
                have A27 := Aside0.mk A270
                clear A270
                obtain rfl := Option.some.inj H
                go_enter Tryd.func3, Tryd.ntmps3
                go_wp2_with (first | ((with_reducible refine gate_callee (f := 13) rfl ?_); refine goesL_ (some 11) rfl rfl Tryd.func13 (by kernel_rfl) rfl #[.slice A1 l1.length c1] rfl (by (try simp only [List.map_toArray, List.map_cons, List.map_nil]); first | done | rfl | (simp only [List.length_drop, List.length_take]; rfl)) ?_; (with_reducible refine (arrearslaw6_roomy.calls k _ _ l1 t135 _ ?side1 ?side2 A4.out).mono ?_); (case side1 => repeat (first | exact HR1.out | (with_reducible refine Kd.C_alloc ?_ _) | (with_reducible refine Kd.C_drewN ?_ _) | (with_reducible refine Kd.C_drew ?_))); (case side2 => exact HC1.out); rintro e w28 ⟨v136, rfl, ho0, hb⟩; refine ⟨_, rfl, ?_⟩; have n0_ := Aside0.mk (Kd.R_lower ho0 (below_size (by repeat (first | (with_reducible first | exact HB.out | apply below_alloc | apply pw_below_drewN | apply below_drew1) | exact HB.out)))); have n1_ := Aside0.mk (below_step (by repeat (first | (with_reducible first | exact HB.out | apply below_alloc | apply pw_below_drewN | apply below_drew1) | exact HB.out)) hb); clear HB; have HO137 := n0_; have HB := n1_; clear n0_ n1_; (try clear hb); (try clear hb2); (try clear hk); (try clear hi); (try clear ho0); obtain ⟨Ao30, co30, eo30⟩ := Kd.R_slice HO137.out; subst eo30; have q29 : ((l1.length : Int) : Int) ≤ ((t135.length : Int) : Int) := of_decide_eq_true (by first | (with_reducible assumption) | assumption); obtain ⟨i029, hi029, _, hsz29, _⟩ := info_parts info5; have hroom29 : t135.length ≤ co30 := (Kd.R_reads' HO137.out).2.1; have hC29 : Kd.C (Kd.int .u8) _ Ao30 t135.length t135 := (Kd.R_reads' HO137.out).2.2; have hcut29 := cut_to (P := Tryd.prog) 23 5 .i64 Tryd.underlying23 hi029 Ao30 t135.length co30 (l1.length : Int) (of_decide_eq_true (by first | (with_reducible assumption) | assumption)) q29 hroom29; have hr29 := Kd.C_take (m := ((l1.length : Int) : Int).toNat) hC29 (by omega); have hy29 : y138.length = ((l1.length : Int) : Int).toNat := (by rw [Ny138.out, List.length_take]; omega); rw [← Ny138.out] at hr29; rw [← hy29] at hcut29; have HR141 := Aside0.mk hr29; have HC141 := Aside0.mk (show y138.length ≤ co30 from by omega); clear hr29 hC29 hroom29 hi029 hsz29; have KY29 := Aside0.mk hy29; clear hy29; have KL29 := Aside0.mk (show ((l1.length : Int) : Int).toNat ≤ t135.length from by omega); replace q29 := eq_true q29) | ((with_reducible refine gate_callee (f := 14) rfl ?_); refine goesL_ (some 16) rfl rfl Tryd.func14 (by kernel_rfl) rfl #[.slice Ao30 y138.length co30] rfl (by (try simp only [List.map_toArray, List.map_cons, List.map_nil]); first | done | rfl | (simp only [List.length_drop, List.length_take]; rfl)) ?_; (with_reducible refine (frame_Sum.calls _ _ y138 t142 _ ?side1 ?side2 ?sideL A7.out).mono ?_); (case sideL => exact laid_at HL0_.out (by repeat (first | (with_reducible first | exact HB.out | apply below_alloc | apply pw_below_drewN | apply below_drew1 | refine below_set ?_ (Aside0.out (by assumption))) | exact HB.out | exact Below.refl _ _ | exact Drawn0.below (Drawn0.refl _)))); (case side1 => repeat (first | exact (by repeat (first | (with_reducible exact HR141.out) | (with_reducible refine Kd.C_alloc ?_ _) | (with_reducible refine Kd.C_drewN ?_ _) | (with_reducible refine Kd.C_drew ?_) | exact HR141.out)) | (with_reducible refine Kd.C_alloc ?_ _) | (with_reducible refine Kd.C_drewN ?_ _) | (with_reducible refine Kd.C_drew ?_))); (case side2 => exact HC141.out); rintro e w' ⟨rfl, ⟨nd, rfl⟩⟩; refine ⟨_, rfl, ?_⟩) | ((with_reducible refine gate_callee (f := 15) rfl ?_); refine goesL_ (some 18) rfl rfl Tryd.func15 (by kernel_rfl) rfl #[.slice A1 l1.length c1] rfl (by (try simp only [List.map_toArray, List.map_cons, List.map_nil]); first | done | rfl | (simp only [List.length_drop, List.length_take]; rfl)) ?_; (with_reducible refine (arrearsref6_Sum.calls k _ _ l1 t143 _ ?side1 ?side2 A8.out).mono ?_); (case side1 => repeat (first | exact (Kd.C_below HR1.out (by repeat (first | (with_reducible first | exact HB.out | apply below_alloc | apply pw_below_drewN | apply below_drew1) | exact HB.out))) | (with_reducible refine Kd.C_alloc ?_ _) | (with_reducible refine Kd.C_drewN ?_ _) | (with_reducible refine Kd.C_drew ?_))); (case side2 => exact HC1.out); rintro e w' ⟨rfl, ⟨nd, rfl⟩⟩; refine ⟨_, rfl, ?_⟩; have q31 : ((l1.length : Int) : Int) ≤ ((t135.length : Int) : Int) := of_decide_eq_true (by first | (with_reducible assumption) | assumption); obtain ⟨i031, hi031, _, hsz31, _⟩ := info_parts info5; have hroom31 : t135.length ≤ co30 := (Kd.R_reads' HO137.out).2.1; have hC31 : Kd.C (Kd.int .u8) _ Ao30 t135.length t135 := (Kd.R_reads' HO137.out).2.2; (try clear hcut29); have hcut31 := cut_to (P := Tryd.prog) 23 5 .i64 Tryd.underlying23 hi031 Ao30 t135.length co30 (l1.length : Int) (of_decide_eq_true (by first | (with_reducible assumption) | assumption)) q31 hroom31; have hr31 := Kd.C_take (m := ((l1.length : Int) : Int).toNat) hC31 (by omega); have hy31 : y138.length = ((l1.length : Int) : Int).toNat := (by rw [Ny144.out, List.length_take]; omega); rw [← Ny144.out] at hr31; rw [← hy31] at hcut31; have HR147 := Aside0.mk hr31; have HC147 := Aside0.mk (show y138.length ≤ co30 from by omega); clear hr31 hC31 hroom31 hi031 hsz31; have KY31 := Aside0.mk hy31; clear hy31; have KL31 := Aside0.mk (show ((l1.length : Int) : Int).toNat ≤ t135.length from by omega); replace q31 := eq_true q31) | ((with_reducible refine gate_callee (f := 16) rfl ?_); refine goesL_ (some 25) rfl rfl Tryd.func16 (by kernel_rfl) rfl #[.int .u32 a0, .slice Ao30 y138.length co30] rfl (by (try simp only [List.map_toArray, List.map_cons, List.map_nil]); first | done | rfl | (simp only [List.length_drop, List.length_take]; rfl)) ?_; (with_reducible refine (frame_Extend.calls a0 _ _ y138 t148 _ ?side1 ?side2 ?sideL A12.out).mono ?_); (case sideL => exact laid_at HL0_.out (by repeat (first | (with_reducible first | exact HB.out | apply below_alloc | apply pw_below_drewN | apply below_drew1 | refine below_set ?_ (Aside0.out (by assumption))) | exact HB.out | exact Below.refl _ _ | exact Drawn0.below (Drawn0.refl _)))); (case side1 => repeat (first | exact (by repeat (first | (with_reducible exact HR147.out) | (with_reducible refine Kd.C_alloc ?_ _) | (with_reducible refine Kd.C_drewN ?_ _) | (with_reducible refine Kd.C_drew ?_) | exact HR147.out)) | (with_reducible refine Kd.C_alloc ?_ _) | (with_reducible refine Kd.C_drewN ?_ _) | (with_reducible refine Kd.C_drew ?_))); (case side2 => exact HC147.out); rintro e w' ⟨rfl, ⟨nd, rfl⟩⟩; refine ⟨_, rfl, ?_⟩) | ((with_reducible refine gate_callee (f := 17) rfl ?_); refine goesL_ (some 28) rfl rfl Tryd.func17 (by kernel_rfl) rfl #[.int .u32 a0, .slice A1 l1.length c1] rfl (by (try simp only [List.map_toArray, List.map_cons, List.map_nil]); first | done | rfl | (simp only [List.length_drop, List.length_take]; rfl)) ?_; (with_reducible refine (arrearsref6_Extend.calls k a0 _ _ l1 t149 _ ?side1 ?side2 A13.out).mono ?_); (case side1 => repeat (first | exact (Kd.C_below HR1.out (by repeat (first | (with_reducible first | exact HB.out | apply below_alloc | apply pw_below_drewN | apply below_drew1) | exact HB.out))) | (with_reducible refine Kd.C_alloc ?_ _) | (with_reducible refine Kd.C_drewN ?_ _) | (with_reducible refine Kd.C_drew ?_))); (case side2 => exact HC1.out); rintro e w' ⟨rfl, ⟨nd, rfl⟩⟩; refine ⟨_, rfl, ?_⟩) | ((with_reducible refine gate_callee (f := 13) rfl ?_); refine goesL_ (some 32) rfl rfl Tryd.func13 (by kernel_rfl) rfl #[.slice A1 l1.length c1] rfl (by (try simp only [List.map_toArray, List.map_cons, List.map_nil]); first | done | rfl | (simp only [List.length_drop, List.length_take]; rfl)) ?_; (with_reducible refine (arrearslaw6_roomy.calls k _ _ l1 t150 _ ?side1 ?side2 A15.out).mono ?_); (case side1 => repeat (first | exact (Kd.C_below HR1.out (by repeat (first | (with_reducible first | exact HB.out | apply below_alloc | apply pw_below_drewN | apply below_drew1) | exact HB.out))) | (with_reducible refine Kd.C_alloc ?_ _) | (with_reducible refine Kd.C_drewN ?_ _) | (with_reducible refine Kd.C_drew ?_))); (case side2 => exact HC1.out); rintro e w32 ⟨v151, rfl, ho0, hb⟩; refine ⟨_, rfl, ?_⟩; have n0_ := Aside0.mk (Kd.R_elder' (by (with_reducible repeat (first | apply Kd.R_alloc | apply Kd.R_drewN | apply Kd.R_drew)); exact HO137.out) (Kd.R_base ho0) hb); have n1_ := Aside0.mk (Kd.R_lower (Kd.R_new' ho0 (Kd.R_lt (by (with_reducible repeat (first | apply Kd.R_alloc | apply Kd.R_drewN | apply Kd.R_drew)); exact HO137.out))) (below_size (by repeat (first | (with_reducible first | exact HB.out | apply below_alloc | apply pw_below_drewN | apply below_drew1) | exact HB.out)))); have n2_ := Aside0.mk (Kd.C_below (by repeat (first | (with_reducible exact HR141.out) | (with_reducible refine Kd.C_alloc ?_ _) | (with_reducible refine Kd.C_drewN ?_ _) | (with_reducible refine Kd.C_drew ?_) | exact HR141.out)) hb); have n3_ := Aside0.mk (Kd.C_below (by repeat (first | (with_reducible exact HR147.out) | (with_reducible refine Kd.C_alloc ?_ _) | (with_reducible refine Kd.C_drewN ?_ _) | (with_reducible refine Kd.C_drew ?_) | exact HR147.out)) hb); have n4_ := Aside0.mk (below_step (by repeat (first | (with_reducible first | exact HB.out | apply below_alloc | apply pw_below_drewN | apply below_drew1) | exact HB.out)) hb); clear HO137; clear HR141; clear HR147; clear HB; have HO137 := n0_; have HO152 := n1_; have HR141 := n2_; have HR147 := n3_; have HB := n4_; clear n0_ n1_ n2_ n3_ n4_; (try clear hb); (try clear hb2); (try clear hk); (try clear hi); (try clear ho0); obtain ⟨Ao33, co33, eo33⟩ := Kd.R_slice HO152.out; subst eo33) | ((with_reducible refine gate_callee (f := 18) rfl ?_); refine goesL_ (some 33) rfl rfl Tryd.func18 (by kernel_rfl) rfl #[.slice Ao30 t135.length co30, .slice Ao33 t150.length co33] rfl (by (try simp only [List.map_toArray, List.map_cons, List.map_nil]); first | done | rfl | (simp only [List.length_drop, List.length_take]; rfl)) ?_; (with_reducible refine (arrearslaw6_same.calls k _ _ t135 _ _ t150 true _ ?side1 ?side2 ?side3 ?side4 A16.out).mono ?_); (case side1 => repeat (first | exact (Kd.R_reads' HO137.out).2.2 | (with_reducible refine Kd.C_alloc ?_ _) | (with_reducible refine Kd.C_drewN ?_ _) | (with_reducible refine Kd.C_drew ?_))); (case side2 => exact (Kd.R_reads' HO137.out).2.1); (case side3 => repeat (first | exact (Kd.R_reads' HO152.out).2.2 | (with_reducible refine Kd.C_alloc ?_ _) | (with_reducible refine Kd.C_drewN ?_ _) | (with_reducible refine Kd.C_drew ?_))); (case side4 => exact (Kd.R_reads' HO152.out).2.1); rintro e w' ⟨rfl, ⟨nd, rfl⟩⟩; refine ⟨_, rfl, ?_⟩) | ((with_reducible refine gate_callee (f := 19) rfl ?_); refine goesL_ (some 38) rfl rfl Tryd.func19 (by kernel_rfl) rfl #[.slice Ao30 t135.length co30, .int .i64 (l1.length : Int)] rfl (by (try simp only [List.map_toArray, List.map_cons, List.map_nil]); first | done | rfl | (simp only [List.length_drop, List.length_take]; rfl)) ?_; (with_reducible refine (arrearslaw6_turned.calls k (fun k_ => some k_ = (.slice Ao30 t135.length co30 : Value).ownBlock) (.slice Ao30 t135.length co30) t135 (l1.length : Int) t154 t157 w _ ?side1 ?side2 A18.out).mono ?_); (case side1 => repeat (first | (with_reducible first | exact HB.out | apply below_alloc | apply pw_below_drewN | apply below_drew1) | exact HB.out)); (case side2 => exact Kd.R_tight rfl HO137.out); rintro e w34 ⟨v155, rfl, ho0, hy0, hb, hkp⟩; refine ⟨_, rfl, ?_⟩; have n0_ := Aside0.mk (Kd.R_reok rfl hy0 (fun k_ e_ => HO137.out.1 k_ e_)); have n1_ := Aside0.mk (Kd.R_mono (ok' := fun k_ => some k_ ≠ (.slice Ao30 t135.length co30 : Value).ownBlock ∧ some k_ ≠ (v155 : Value).ownBlock) (Kd.R_keptB (HO152.out) hkp (fun k_ hk_ hs_ => (hk_.2) hs_)) (fun k_ hk_ => ⟨hk_.1.2, fun e_ => Or.elim (ho0.1 k_ e_.symm).1 (fun hs_ => hk_.2.1 hs_) (fun hn_ => Nat.not_le.2 hk_.2.2 hn_)⟩)); have n2_ := Aside0.mk (Kd.R_mono (ok' := fun k_ => some k_ ≠ (.slice Ao33 t150.length co33 : Value).ownBlock ∧ some k_ ≠ (.slice Ao30 t135.length co30 : Value).ownBlock) ho0 (fun k_ hk_ => ⟨Or.elim hk_.1 (fun hs_ => fun e_ => (((HO152.out).1 k_ e_.symm).2) hs_) (fun hn_ => (Kd.fresh' (Kd.R_lt (by (with_reducible repeat (first | apply Kd.R_alloc | apply Kd.R_drewN | apply Kd.R_drew)); exact HO152.out)) k_ hn_)), hk_.2⟩)); have n3_ := Aside0.mk (hb); clear HO137; clear HO152; clear HB; have HO137 := n0_; have HO152 := n1_; have HO156 := n2_; have HB := n3_; clear n0_ n1_ n2_ n3_; (try clear hb); (try clear hkp); (try clear ho0); (try clear hy0); have hlx35 := (Kd.R_reads' HO137.out).1; have q35 : ((l1.length : Int) : Int) ≤ ((t135.length : Int) : Int) := of_decide_eq_true (by first | (with_reducible assumption) | assumption); obtain ⟨i035, hi035, _, hsz35, _⟩ := info_parts info5; have hroom35 : t135.length ≤ co30 := (Kd.R_reads' HO137.out).2.1; have hroomc35 : t157.length ≤ co30 := (by rw [← hlx35]; exact hroom35); have hC35 : Kd.C (Kd.int .u8) _ Ao30 t157.length t157 := (Kd.R_reads' HO137.out).2.2; (try clear hcut29); (try clear hcut31); have hcut35 := cut_to (P := Tryd.prog) 23 5 .i64 Tryd.underlying23 hi035 Ao30 t135.length co30 (l1.length : Int) (of_decide_eq_true (by first | (with_reducible assumption) | assumption)) q35 hroom35; have hr35 := Kd.C_take (m := ((l1.length : Int) : Int).toNat) hC35 (by omega); have hy35 : y158.length = ((l1.length : Int) : Int).toNat := (by rw [Ny158.out, List.length_take]; omega); rw [← Ny158.out] at hr35; rw [← hy35] at hcut35; have HR161 := Aside0.mk hr35; have HC161 := Aside0.mk (show y158.length ≤ co30 from by omega); clear hr35 hC35 hroom35 hi035 hsz35 hroomc35; have KY35 := Aside0.mk hy35; clear hy35; have KE35 := Aside0.mk hlx35; have KL35 := Aside0.mk (show ((l1.length : Int) : Int).toNat ≤ t157.length from by omega); clear hlx35; replace q35 := eq_true q35) | ((with_reducible refine gate_callee (f := 14) rfl ?_); refine goesL_ (some 43) rfl rfl Tryd.func14 (by kernel_rfl) rfl #[.slice Ao30 y158.length co30] rfl (by (try simp only [List.map_toArray, List.map_cons, List.map_nil]); first | done | rfl | (simp only [List.length_drop, List.length_take]; rfl)) ?_; (with_reducible refine (frame_Sum.calls _ _ y158 t162 _ ?side1 ?side2 ?sideL A21.out).mono ?_); (case sideL => exact laid_at HL0_.out (by repeat (first | (with_reducible first | exact HB.out | apply below_alloc | apply pw_below_drewN | apply below_drew1 | refine below_set ?_ (Aside0.out (by assumption))) | exact HB.out | exact Below.refl _ _ | exact Drawn0.below (Drawn0.refl _)))); (case side1 => repeat (first | exact (by repeat (first | (with_reducible exact HR161.out) | (with_reducible refine Kd.C_alloc ?_ _) | (with_reducible refine Kd.C_drewN ?_ _) | (with_reducible refine Kd.C_drew ?_) | exact HR161.out)) | (with_reducible refine Kd.C_alloc ?_ _) | (with_reducible refine Kd.C_drewN ?_ _) | (with_reducible refine Kd.C_drew ?_))); (case side2 => exact HC161.out); rintro e w' ⟨rfl, ⟨nd, rfl⟩⟩; refine ⟨_, rfl, ?_⟩; obtain ⟨Ao36, co36, eo36⟩ := Kd.R_slice HO156.out; subst eo36) | ((with_reducible refine gate_callee (f := 15) rfl ?_); refine goesL_ (some 45) rfl rfl Tryd.func15 (by kernel_rfl) rfl #[.slice Ao36 t154.length co36] rfl (by (try simp only [List.map_toArray, List.map_cons, List.map_nil]); first | done | rfl | (simp only [List.length_drop, List.length_take]; rfl)) ?_; (with_reducible refine (arrearsref6_Sum.calls k _ _ t154 t163 _ ?side1 ?side2 A22.out).mono ?_); (case side1 => repeat (first | exact (Kd.R_reads' HO156.out).2.2 | (with_reducible refine Kd.C_alloc ?_ _) | (with_reducible refine Kd.C_drewN ?_ _) | (with_reducible refine Kd.C_drew ?_))); (case side2 => exact (Kd.R_reads' HO156.out).2.1); rintro e w' ⟨rfl, ⟨nd, rfl⟩⟩; refine ⟨_, rfl, ?_⟩; have hlx37 := (Kd.R_reads' HO137.out).1; have q37 : ((l1.length : Int) : Int) ≤ ((t135.length : Int) : Int) := of_decide_eq_true (by first | (with_reducible assumption) | assumption); obtain ⟨i037, hi037, _, hsz37, _⟩ := info_parts info5; have hroom37 : t135.length ≤ co30 := (Kd.R_reads' HO137.out).2.1; have hroomc37 : t157.length ≤ co30 := (by rw [← hlx37]; exact hroom37); have hC37 : Kd.C (Kd.int .u8) _ Ao30 t157.length t157 := (Kd.R_reads' HO137.out).2.2; (try clear hcut29); (try clear hcut31); (try clear hcut35); have hcut37 := cut_to (P := Tryd.prog) 23 5 .i64 Tryd.underlying23 hi037 Ao30 t135.length co30 (l1.length : Int) (of_decide_eq_true (by first | (with_reducible assumption) | assumption)) q37 hroom37; have hr37 := Kd.C_take (m := ((l1.length : Int) : Int).toNat) hC37 (by omega); have hy37 : y158.length = ((l1.length : Int) : Int).toNat := (by rw [Ny164.out, List.length_take]; omega); rw [← Ny164.out] at hr37; rw [← hy37] at hcut37; have HR167 := Aside0.mk hr37; have HC167 := Aside0.mk (show y158.length ≤ co30 from by omega); clear hr37 hC37 hroom37 hi037 hsz37 hroomc37; have KY37 := Aside0.mk hy37; clear hy37; have KE37 := Aside0.mk hlx37; have KL37 := Aside0.mk (show ((l1.length : Int) : Int).toNat ≤ t157.length from by omega); clear hlx37; replace q37 := eq_true q37) | (go_at_call 16; (with_reducible refine (frame_Extend.calls a0 _ _ y158 t168 _ ?side1 ?side2 ?sideL A26.out).mono ?_); (case sideL => exact laid_at HL0_.out (by repeat (first | (with_reducible first | exact HB.out | apply below_alloc | apply pw_below_drewN | apply below_drew1 | refine below_set ?_ (Aside0.out (by assumption))) | exact HB.out | exact Below.refl _ _ | exact Drawn0.below (Drawn0.refl _)))); (case side1 => repeat (first | exact (by repeat (first | (with_reducible exact HR167.out) | (with_reducible refine Kd.C_alloc ?_ _) | (with_reducible refine Kd.C_drewN ?_ _) | (with_reducible refine Kd.C_drew ?_) | exact HR167.out)) | (with_reducible refine Kd.C_alloc ?_ _) | (with_reducible refine Kd.C_drewN ?_ _) | (with_reducible refine Kd.C_drew ?_))); (case side2 => exact HC167.out); rintro e w' ⟨rfl, ⟨nd, rfl⟩⟩) | (go_at_call 17; (with_reducible refine (arrearsref6_Extend.calls k a0 _ _ t154 t169 _ ?side1 ?side2 A27.out).mono ?_); (case side1 => repeat (first | exact (Kd.R_reads' HO156.out).2.2 | (with_reducible refine Kd.C_alloc ?_ _) | (with_reducible refine Kd.C_drewN ?_ _) | (with_reducible refine Kd.C_drew ?_))); (case side2 => exact (Kd.R_reads' HO156.out).2.1); rintro e w' ⟨rfl, ⟨nd, rfl⟩⟩))
                go_ret
                exact ⟨by first | rfl | (simp [errW_none, errW_some] <;> rfl) | (simp [*, errW_none, errW_some] <;> rfl), by repeat (first | (with_reducible first | exact HB.out | apply below_alloc | apply pw_below_drewN | apply below_drew1) | exact HB.out)⟩
              · rw [if_neg c23] at H
                exact absurd H (by simp)
            · replace c17 := Bool.eq_false_iff.mpr c17
              subst c17
              have H1 : (none) = some r := by rw [if_neg (show ¬ (false = true) by decide)] at H; exact H
              clear H
              have H := H1
              clear H1
              exact absurd H (by simp)
          · rw [if_neg c14] at H
            exact absurd H (by simp)
        · rw [if_neg c9] at H
          exact absurd H (by simp)
      · rw [if_neg c6] at H
        exact absurd H (by simp)
    · rw [if_neg c5] at H
      exact absurd H (by simp)

end Go.Proofs.YtgfjmpnlkjocaaaDoor.G
