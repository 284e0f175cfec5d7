-- Written by stubprint.py (wip/) of this work, over the kit's print.py; parts by hand.
import Derived.Test.YtgfjmpnlkjocaaaDoorJx0
import Derived.Test.YtgfjmpnlkjocaaaDoorJx1
import Derived.Test.YtgfjmpnlkjocaaaDoorJx2
import Derived.Test.YtgfjmpnlkjocaaaDoorJx3
import Derived.Test.YtgfjmpnlkjocaaaDoorJx4
namespace Go.Proofs.YtgfjmpnlkjocaaaDoor.J
open Go.RowKit Go.Proofs.YtgfjmpnlkjocaaaDoorW.PrintWords Go.Proofs.YtgfjmpnlkjocaaaDoorW.PrintLast Go.Proofs.YtgfjmpnlkjocaaaDoorW.PrintMore
attribute [local go_sem] max2_int min2_int max_two min_two max_three min_three max_four min_four   -- for this text's walks alone
set_option linter.unusedVariables false
set_option linter.unusedSimpArgs false

/-! ### arrearslaw6_FrameGoesOn: function 11 -/
mutual
def arrearslaw6_FrameGoesOn.j0 : Nat → List (List Int) → List Int → Bool → Option (Bool)
  | 0, _, _, _ => none
  | k + 1, x0, x1, x20 => if x20 = true then (some true) else ((arrearslaw6_twin.f k x0).bind fun t147 => ((frame_Join.f k t147).bind fun bt150 => (if bt150.2 = true then ((arrearslaw6_size.f k x0).bind fun t154 => (arrearslaw6_FrameGoesOn.j1 k x0 x1 bt150.1 ((bt150.1.length : Int) != t154))) else (arrearslaw6_FrameGoesOn.j1 k x0 x1 bt150.1 true))))
def arrearslaw6_FrameGoesOn.j1 : Nat → List (List Int) → List Int → List Int → Bool → Option (Bool)
  | 0, _, _, _, _ => none
  | k + 1, x0, x1, x5, x35 => if x35 = true then (none) else ((arrearslaw6_plus.f k x5 x1).bind fun t155 => ((frame_Scan.f k t155).bind fun bt158 => ((arrearslaw6_copied.f k x1).bind fun t163 => ((frame_Scan.f k t163).bind fun bt166 => (if (bt158.1.length : Int) = (wrap64 ((x0.length : Int) + (bt166.1.length : Int))) then (if bt158.2.1 = (wrap64 ((x5.length : Int) + bt166.2.1)) then (arrearslaw6_FrameGoesOn.j2 k x0 bt158.1 bt166.1 (bt158.2.2 != bt166.2.2)) else (arrearslaw6_FrameGoesOn.j2 k x0 bt158.1 bt166.1 true)) else (arrearslaw6_FrameGoesOn.j2 k x0 bt158.1 bt166.1 true))))))
def arrearslaw6_FrameGoesOn.j2 : Nat → List (List Int) → List (List Int) → List (List Int) → Bool → Option (Bool)
  | 0, _, _, _, _ => none
  | k + 1, x0, x7, x10, x71 => if x71 = true then (none) else (if 0 ≤ (x0.length : Int) then (if (x0.length : Int) ≤ (x7.length : Int) then ((arrearslaw6_alike.f k (x7.take ((x0.length : Int) : Int).toNat) x0).bind fun t175 => (if t175 = true then ((arrearslaw6_alike.f k (x7.drop ((x0.length : Int) : Int).toNat) x10).bind fun t180 => (some t180)) else (none))) else (none)) else (none))
end
def arrearslaw6_FrameGoesOn.f (k : Nat) (l0 : List (List Int)) (l1 : List Int) : Option (Bool) := (arrearslaw6_fits.f k l0).bind fun t146 => (if t146 = true then (arrearslaw6_FrameGoesOn.j0 k l0 l1 (decide ((l1.length : Int) > 6000000))) else (arrearslaw6_FrameGoesOn.j0 k l0 l1 true))
theorem arrearslaw6_FrameGoesOn.mono_l : ∀ k, (∀ y0 y1 y2, LeO (arrearslaw6_FrameGoesOn.j0 k y0 y1 y2) (arrearslaw6_FrameGoesOn.j0 (k + 1) y0 y1 y2)) ∧ (∀ y0 y1 y2 y3, LeO (arrearslaw6_FrameGoesOn.j1 k y0 y1 y2 y3) (arrearslaw6_FrameGoesOn.j1 (k + 1) y0 y1 y2 y3)) ∧ (∀ y0 y1 y2 y3, LeO (arrearslaw6_FrameGoesOn.j2 k y0 y1 y2 y3) (arrearslaw6_FrameGoesOn.j2 (k + 1) y0 y1 y2 y3))
  | 0 => ⟨fun _ _ _ r h => by simp [arrearslaw6_FrameGoesOn.j0] at h, fun _ _ _ _ r h => by simp [arrearslaw6_FrameGoesOn.j1] at h, fun _ _ _ _ r h => by simp [arrearslaw6_FrameGoesOn.j2] at h⟩
  | k + 1 => by
    obtain ⟨ih0, ih1, ih2⟩ := arrearslaw6_FrameGoesOn.mono_l k
    refine ⟨?_, ?_, ?_⟩
    · intro y0 y1 y2
      unfold arrearslaw6_FrameGoesOn.j0
      repeat' first
      | (with_reducible exact ih0 _ _ _)
      | (with_reducible exact ih1 _ _ _ _)
      | (with_reducible exact ih2 _ _ _ _)
      | (with_reducible exact arrearslaw6_alike.mono _ _ _)
      | (with_reducible exact arrearslaw6_copied.mono _ _)
      | (with_reducible exact arrearslaw6_fits.mono _ _)
      | (with_reducible exact arrearslaw6_plus.mono _ _ _)
      | (with_reducible exact arrearslaw6_size.mono _ _)
      | (with_reducible exact arrearslaw6_twin.mono _ _)
      | (with_reducible exact frame_Join.mono _ _)
      | (with_reducible exact frame_Scan.mono _ _)
      | (with_reducible exact LeO.refl _)
      | (with_reducible exact LeO.none _)
      | (with_reducible refine LeO.ite ?_ ?_)
      | (with_reducible refine LeO.bind ?_ (fun _ => ?_))
      | exact ih0 _ _ _
      | exact ih1 _ _ _ _
      | exact ih2 _ _ _ _
      | exact arrearslaw6_alike.mono _ _ _
      | exact arrearslaw6_copied.mono _ _
      | exact arrearslaw6_fits.mono _ _
      | exact arrearslaw6_plus.mono _ _ _
      | exact arrearslaw6_size.mono _ _
      | exact arrearslaw6_twin.mono _ _
      | exact frame_Join.mono _ _
      | exact frame_Scan.mono _ _
      | exact LeO.none _
      | refine LeO.ite ?_ ?_
      | refine LeO.bind ?_ (fun _ => ?_)
    · intro y0 y1 y2 y3
      unfold arrearslaw6_FrameGoesOn.j1
      repeat' first
      | (with_reducible exact ih0 _ _ _)
      | (with_reducible exact ih1 _ _ _ _)
      | (with_reducible exact ih2 _ _ _ _)
      | (with_reducible exact arrearslaw6_alike.mono _ _ _)
      | (with_reducible exact arrearslaw6_copied.mono _ _)
      | (with_reducible exact arrearslaw6_fits.mono _ _)
      | (with_reducible exact arrearslaw6_plus.mono _ _ _)
      | (with_reducible exact arrearslaw6_size.mono _ _)
      | (with_reducible exact arrearslaw6_twin.mono _ _)
      | (with_reducible exact frame_Join.mono _ _)
      | (with_reducible exact frame_Scan.mono _ _)
      | (with_reducible exact LeO.refl _)
      | (with_reducible exact LeO.none _)
      | (with_reducible refine LeO.ite ?_ ?_)
      | (with_reducible refine LeO.bind ?_ (fun _ => ?_))
      | exact ih0 _ _ _
      | exact ih1 _ _ _ _
      | exact ih2 _ _ _ _
      | exact arrearslaw6_alike.mono _ _ _
      | exact arrearslaw6_copied.mono _ _
      | exact arrearslaw6_fits.mono _ _
      | exact arrearslaw6_plus.mono _ _ _
      | exact arrearslaw6_size.mono _ _
      | exact arrearslaw6_twin.mono _ _
      | exact frame_Join.mono _ _
      | exact frame_Scan.mono _ _
      | exact LeO.none _
      | refine LeO.ite ?_ ?_
      | refine LeO.bind ?_ (fun _ => ?_)
    · intro y0 y1 y2 y3
      unfold arrearslaw6_FrameGoesOn.j2
      repeat' first
      | (with_reducible exact ih0 _ _ _)
      | (with_reducible exact ih1 _ _ _ _)
      | (with_reducible exact ih2 _ _ _ _)
      | (with_reducible exact arrearslaw6_alike.mono _ _ _)
      | (with_reducible exact arrearslaw6_copied.mono _ _)
      | (with_reducible exact arrearslaw6_fits.mono _ _)
      | (with_reducible exact arrearslaw6_plus.mono _ _ _)
      | (with_reducible exact arrearslaw6_size.mono _ _)
      | (with_reducible exact arrearslaw6_twin.mono _ _)
      | (with_reducible exact frame_Join.mono _ _)
      | (with_reducible exact frame_Scan.mono _ _)
      | (with_reducible exact LeO.refl _)
      | (with_reducible exact LeO.none _)
      | (with_reducible refine LeO.ite ?_ ?_)
      | (with_reducible refine LeO.bind ?_ (fun _ => ?_))
      | exact ih0 _ _ _
      | exact ih1 _ _ _ _
      | exact ih2 _ _ _ _
      | exact arrearslaw6_alike.mono _ _ _
      | exact arrearslaw6_copied.mono _ _
      | exact arrearslaw6_fits.mono _ _
      | exact arrearslaw6_plus.mono _ _ _
      | exact arrearslaw6_size.mono _ _
      | exact arrearslaw6_twin.mono _ _
      | exact frame_Join.mono _ _
      | exact frame_Scan.mono _ _
      | exact LeO.none _
      | refine LeO.ite ?_ ?_
      | refine LeO.bind ?_ (fun _ => ?_)
theorem arrearslaw6_FrameGoesOn.mono : ∀ a0 a1 k, LeO (arrearslaw6_FrameGoesOn.f k a0 a1) (arrearslaw6_FrameGoesOn.f (k + 1) a0 a1) := by
  intro a0 a1 k
  obtain ⟨ih0, ih1, ih2⟩ := arrearslaw6_FrameGoesOn.mono_l k
  unfold arrearslaw6_FrameGoesOn.f
  repeat' first
      | (with_reducible exact ih0 _ _ _)
      | (with_reducible exact ih1 _ _ _ _)
      | (with_reducible exact ih2 _ _ _ _)
      | (with_reducible exact arrearslaw6_alike.mono _ _ _)
      | (with_reducible exact arrearslaw6_copied.mono _ _)
      | (with_reducible exact arrearslaw6_fits.mono _ _)
      | (with_reducible exact arrearslaw6_plus.mono _ _ _)
      | (with_reducible exact arrearslaw6_size.mono _ _)
      | (with_reducible exact arrearslaw6_twin.mono _ _)
      | (with_reducible exact frame_Join.mono _ _)
      | (with_reducible exact frame_Scan.mono _ _)
      | (with_reducible exact LeO.refl _)
      | (with_reducible exact LeO.none _)
      | (with_reducible refine LeO.ite ?_ ?_)
      | (with_reducible refine LeO.bind ?_ (fun _ => ?_))
      | exact ih0 _ _ _
      | exact ih1 _ _ _ _
      | exact ih2 _ _ _ _
      | exact arrearslaw6_alike.mono _ _ _
      | exact arrearslaw6_copied.mono _ _
      | exact arrearslaw6_fits.mono _ _
      | exact arrearslaw6_plus.mono _ _ _
      | exact arrearslaw6_size.mono _ _
      | exact arrearslaw6_twin.mono _ _
      | exact frame_Join.mono _ _
      | exact frame_Scan.mono _ _
      | exact LeO.none _
      | refine LeO.ite ?_ ?_
      | refine LeO.bind ?_ (fun _ => ?_)
set_option maxHeartbeats 8000000 in
set_option maxRecDepth 100000 in
theorem arrearslaw6_FrameGoesOn.calls (k : Nat) (A0 : Option Addr) (c0 : Nat) (l0 : List (List Int)) (A1 : Option Addr) (c1 : Nat) (l1 : List Int) (r : Bool) (w : World) (hr0 : Kd.C (Kd.slice 5 (Kd.int .u8)) w A0 l0.length l0) (hc0 : l0.length ≤ c0) (hr1 : Kd.C (Kd.int .u8) w A1 l1.length l1) (hc1 : l1.length ≤ c1) (hL : Laid w) (h : arrearslaw6_FrameGoesOn.f k l0 l1 = some r) :
    Calls Tryd.prog 11 #[.slice A0 l0.length c0, .slice A1 l1.length c1] w fun e w' => e = .returned (.bool r) ∧ Below w.heap.size w w' := by
  have HL0_ := Aside0.mk hL
  clear hL
  have HR0 := Aside0.mk hr0
  have HC0 := Aside0.mk hc0
  clear hr0 hc0
  have HR1 := Aside0.mk hr1
  have HC1 := Aside0.mk hc1
  clear hr1 hc1
  have HB := Aside0.mk (Below.refl w.heap.size w)
  have H : ((arrearslaw6_fits.f k l0).bind fun t146 => (if t146 = true then (arrearslaw6_FrameGoesOn.j0 k l0 l1 (decide ((l1.length : Int) > 6000000))) else (arrearslaw6_FrameGoesOn.j0 k l0 l1 true))) = some r := h
  clear h
  have HC3 := Aside0.mk H
  clear H
  go_enter Tryd.func11, Tryd.ntmps11
  go_upto_region 1 with (fail)
  go_cut [20] (fun v20 wc => ∃ (kq : Nat) (x20_2 : Bool), v20 = .bool x20_2 ∧ Aside0 (arrearslaw6_FrameGoesOn.j0 kq l0 l1 x20_2 = some r) ∧ Aside0 (kq ≤ k) ∧ Aside0 (Below w.heap.size w wc))
  case first =>
    have H := HC3.out
    clear HC3
    replace H := Option.bind_eq_some_iff.mp H
    obtain ⟨t146, A40, H⟩ := H
    replace H : (if t146 = true then (arrearslaw6_FrameGoesOn.j0 k l0 l1 (decide ((l1.length : Int) > 6000000))) else (arrearslaw6_FrameGoesOn.j0 k l0 l1 true)) = some r := H
    have A4 := Aside0.mk A40
    clear A40
    by_cases c5 : t146 = true
    · subst c5
      have H1 : (arrearslaw6_FrameGoesOn.j0 k l0 l1 (decide ((l1.length : Int) > 6000000))) = some r := by rw [if_pos rfl] at H; exact H
      clear H
      have H := H1
      clear H1
      have H' := Aside0.mk H
      clear H
      go_wp2_with (first | ((with_reducible refine gate_callee (f := 37) rfl ?_); refine goesL_ (some 14) rfl rfl Tryd.func37 (by kernel_rfl) rfl #[.slice A0 l0.length c0] rfl (by (try simp only [List.map_toArray, List.map_cons, List.map_nil]); first | done | rfl | (simp only [List.length_drop, List.length_take]; rfl)) ?_; (with_reducible refine (arrearslaw6_fits.calls k _ _ l0 true _ ?side1 ?side2 A4.out).mono ?_); (case side1 => repeat (first | exact (Kd.C_below HR0.out HB.out) | (with_reducible refine Kd.C_alloc ?_ _) | (with_reducible refine Kd.C_drewN ?_ _) | (with_reducible refine Kd.C_drew ?_))); (case side2 => exact HC0.out); rintro e w' ⟨rfl, ⟨nd, rfl⟩⟩; refine ⟨_, rfl, ?_⟩))
      go_meet
      case rel => exact ⟨_, (decide ((l1.length : Int) > 6000000)), (by first | rfl | (simp; done) | (simp [*]; done)), H', ⟨by first | omega | exact Nat.le_refl _⟩, ⟨by repeat (first | (with_reducible first | exact HB.out | apply below_alloc | apply pw_below_drewN | apply below_drew1) | exact HB.out)⟩⟩
    · replace c5 := Bool.eq_false_iff.mpr c5
      subst c5
      have H1 : (arrearslaw6_FrameGoesOn.j0 k l0 l1 true) = some r := by rw [if_neg (show ¬ (false = true) by decide)] at H; exact H
      clear H
      have H := H1
      clear H1
      have H' := Aside0.mk H
      clear H
      go_wp2_with (first | ((with_reducible refine gate_callee (f := 37) rfl ?_); refine goesL_ (some 14) rfl rfl Tryd.func37 (by kernel_rfl) rfl #[.slice A0 l0.length c0] rfl (by (try simp only [List.map_toArray, List.map_cons, List.map_nil]); first | done | rfl | (simp only [List.length_drop, List.length_take]; rfl)) ?_; (with_reducible refine (arrearslaw6_fits.calls k _ _ l0 false _ ?side1 ?side2 A4.out).mono ?_); (case side1 => repeat (first | exact (Kd.C_below HR0.out HB.out) | (with_reducible refine Kd.C_alloc ?_ _) | (with_reducible refine Kd.C_drewN ?_ _) | (with_reducible refine Kd.C_drew ?_))); (case side2 => exact HC0.out); rintro e w' ⟨rfl, ⟨nd, rfl⟩⟩; refine ⟨_, rfl, ?_⟩))
      go_meet
      case rel => exact ⟨_, (true), (by first | rfl | (simp; done) | (simp [*]; done)), H', ⟨by first | omega | exact Nat.le_refl _⟩, ⟨by repeat (first | (with_reducible first | exact HB.out | apply below_alloc | apply pw_below_drewN | apply below_drew1) | exact HB.out)⟩⟩
  case rest =>
    clear HC3
    try clear c1
    try clear p2
    try clear c3
    try clear c5
    obtain ⟨kq, x20_2, rfl, HA, HJ2, HB⟩ := hcut
    cases kq with
    | zero => exact absurd HA.out (by simp [arrearslaw6_FrameGoesOn.j0])
    | succ kj2 =>
      have H := HA.out
      clear HA
      simp only [arrearslaw6_FrameGoesOn.j0] at H
      by_cases c6 : x20_2 = true
      · subst c6
        have H1 : (some true) = some r := by rw [if_pos rfl] at H; exact H
        clear H
        have H := H1
        clear H1
        obtain rfl := Option.some.inj H
        go_wp2
        go_ret
        exact ⟨by first | rfl | (simp [errW_none, errW_some] <;> rfl) | (simp [*, errW_none, errW_some] <;> rfl), by repeat (first | (with_reducible first | exact HB.out | apply below_alloc | apply pw_below_drewN | apply below_drew1) | exact HB.out)⟩
      · replace c6 := Bool.eq_false_iff.mpr c6
        subst c6
        have H1 : ((arrearslaw6_twin.f kj2 l0).bind fun t147 => ((frame_Join.f kj2 t147).bind fun bt150 => (if bt150.2 = true then ((arrearslaw6_size.f kj2 l0).bind fun t154 => (arrearslaw6_FrameGoesOn.j1 kj2 l0 l1 bt150.1 ((bt150.1.length : Int) != t154))) else (arrearslaw6_FrameGoesOn.j1 kj2 l0 l1 bt150.1 true)))) = some r := by rw [if_neg (show ¬ (false = true) by decide)] at H; exact H
        clear H
        have H := H1
        clear H1
        replace H := Option.bind_eq_some_iff.mp H
        obtain ⟨t147, A70, H⟩ := H
        replace H : ((frame_Join.f kj2 t147).bind fun bt150 => (if bt150.2 = true then ((arrearslaw6_size.f kj2 l0).bind fun t154 => (arrearslaw6_FrameGoesOn.j1 kj2 l0 l1 bt150.1 ((bt150.1.length : Int) != t154))) else (arrearslaw6_FrameGoesOn.j1 kj2 l0 l1 bt150.1 true))) = some r := H
        have A7 := Aside0.mk A70
        clear A70
        replace H := Option.bind_eq_some_iff.mp H
        obtain ⟨⟨t150, t151⟩, A80, H⟩ := H
        replace H : (if t151 = true then ((arrearslaw6_size.f kj2 l0).bind fun t154 => (arrearslaw6_FrameGoesOn.j1 kj2 l0 l1 t150 ((t150.length : Int) != t154))) else (arrearslaw6_FrameGoesOn.j1 kj2 l0 l1 t150 true)) = some r := H
        have A8 := Aside0.mk A80
        clear A80
        have HC9 := Aside0.mk H
        clear H
        go_upto_region 4 with (first | ((with_reducible refine gate_callee (f := 25) rfl ?_); refine goesL_ (some 23) rfl rfl Tryd.func25 (by kernel_rfl) rfl #[.slice A0 l0.length c0] rfl (by (try simp only [List.map_toArray, List.map_cons, List.map_nil]); first | done | rfl | (simp only [List.length_drop, List.length_take]; rfl)) ?_; (with_reducible refine (arrearslaw6_twin.calls kj2 _ _ l0 t147 _ ?side1 ?side2 A7.out).mono ?_); (case side1 => repeat (first | exact (Kd.C_below HR0.out HB.out) | (with_reducible refine Kd.C_alloc ?_ _) | (with_reducible refine Kd.C_drewN ?_ _) | (with_reducible refine Kd.C_drew ?_))); (case side2 => exact HC0.out); rintro e w10 ⟨v148, rfl, ho0, hb⟩; refine ⟨_, rfl, ?_⟩; have n0_ := Aside0.mk (Kd.S_lower ho0 (below_size (by repeat (first | (with_reducible first | exact HB.out | apply below_alloc | apply pw_below_drewN | apply below_drew1) | exact HB.out)))); have n1_ := Aside0.mk (below_step (by repeat (first | (with_reducible first | exact HB.out | apply below_alloc | apply pw_below_drewN | apply below_drew1) | exact HB.out)) hb); clear HB; have HO149 := n0_; have HB := n1_; clear n0_ n1_; (try clear hb); (try clear hb2); (try clear hk); (try clear hi); (try clear ho0); obtain ⟨Ao11, co11, eo11⟩ := Kd.S_slice HO149.out; subst eo11) | ((with_reducible refine gate_callee (f := 22) rfl ?_); refine goesL_ (some 24) rfl rfl Tryd.func22 (by kernel_rfl) rfl #[.slice Ao11 t147.length co11] rfl (by (try simp only [List.map_toArray, List.map_cons, List.map_nil]); first | done | rfl | (simp only [List.length_drop, List.length_take]; rfl)) ?_; (with_reducible refine (frame_Join.calls kj2 _ _ t147 t150 t151 _ ?side1 ?side2 ?sideL A8.out).mono ?_); (case sideL => exact laid_at HL0_.out (by repeat (first | (with_reducible first | exact HB.out | apply below_alloc | apply pw_below_drewN | apply below_drew1 | refine below_set ?_ (Aside0.out (by assumption))) | exact HB.out | exact Below.refl _ _ | exact Drawn0.below (Drawn0.refl _)))); (case side1 => repeat (first | exact (Kd.S_reads' HO149.out).2.2 | (with_reducible refine Kd.C_alloc ?_ _) | (with_reducible refine Kd.C_drewN ?_ _) | (with_reducible refine Kd.C_drew ?_))); (case side2 => exact (Kd.S_reads' HO149.out).2.1); rintro e w12 ⟨v152, rfl, ho0, hb⟩; refine ⟨_, rfl, ?_⟩; have n0_ := Aside0.mk (Kd.S_elder' (by (with_reducible repeat (first | apply Kd.S_alloc | apply Kd.S_drewN | apply Kd.S_drew)); exact HO149.out) (Kd.R_base ho0) hb); have n1_ := Aside0.mk (Kd.R_lower ho0 (below_size (by repeat (first | (with_reducible first | exact HB.out | apply below_alloc | apply pw_below_drewN | apply below_drew1) | exact HB.out)))); have n2_ := Aside0.mk (below_step (by repeat (first | (with_reducible first | exact HB.out | apply below_alloc | apply pw_below_drewN | apply below_drew1) | exact HB.out)) hb); clear HO149; clear HB; have HO149 := n0_; have HO153 := n1_; have HB := n2_; clear n0_ n1_ n2_; (try clear hb); (try clear hb2); (try clear hk); (try clear hi); (try clear ho0)))
        (try simp only [Act.put, List.setIfInBounds_toArray, List.set_cons_zero, List.set_cons_succ])
        go_cut [35] (fun v35 wc => ∃ (kq : Nat) (x35_8 : Bool), v35 = .bool x35_8 ∧ Aside0 (arrearslaw6_FrameGoesOn.j1 kq l0 l1 t150 x35_8 = some r) ∧ Aside0 (kq ≤ kj2) ∧ Aside0 (Kd.R (Kd.int .u8) 5 wc w.heap.size (fun _ => True) v152 t150) ∧ Aside0 (Below w.heap.size w wc))
        case first =>
          have H := HC9.out
          clear HC9
          by_cases c13 : t151 = true
          · subst c13
            have H1 : ((arrearslaw6_size.f kj2 l0).bind fun t154 => (arrearslaw6_FrameGoesOn.j1 kj2 l0 l1 t150 ((t150.length : Int) != t154))) = some r := by rw [if_pos rfl] at H; exact H
            clear H
            have H := H1
            clear H1
            replace H := Option.bind_eq_some_iff.mp H
            obtain ⟨t154, A140, H⟩ := H
            replace H : (arrearslaw6_FrameGoesOn.j1 kj2 l0 l1 t150 ((t150.length : Int) != t154)) = some r := H
            have A14 := Aside0.mk A140
            clear A140
            have H' := Aside0.mk H
            clear H
            obtain ⟨Ao15, co15, eo15⟩ := Kd.R_slice HO153.out
            subst eo15
            go_wp2_with (first | (go_at_call 20; (with_reducible refine (arrearslaw6_size.calls kj2 _ _ l0 t154 _ ?side1 ?side2 A14.out).mono ?_); (case side1 => repeat (first | exact (Kd.C_below HR0.out HB.out) | (with_reducible refine Kd.C_alloc ?_ _) | (with_reducible refine Kd.C_drewN ?_ _) | (with_reducible refine Kd.C_drew ?_))); (case side2 => exact HC0.out); rintro e w' ⟨rfl, ⟨nd, rfl⟩⟩))
            go_meet
            case rel => exact ⟨_, (((t150.length : Int) != t154)), (by first | rfl | (simp; done) | (simp [*]; done)), H', ⟨by have := HJ2.out; first | omega | exact Nat.le_refl _⟩, ⟨by (with_reducible repeat (first | apply Kd.R_alloc | apply Kd.R_drewN | apply Kd.R_drew)); exact HO153.out⟩, ⟨by repeat (first | (with_reducible first | exact HB.out | apply below_alloc | apply pw_below_drewN | apply below_drew1) | exact HB.out)⟩⟩
          · replace c13 := Bool.eq_false_iff.mpr c13
            subst c13
            have H1 : (arrearslaw6_FrameGoesOn.j1 kj2 l0 l1 t150 true) = some r := by rw [if_neg (show ¬ (false = true) by decide)] at H; exact H
            clear H
            have H := H1
            clear H1
            have H' := Aside0.mk H
            clear H
            go_wp2
            go_meet
            case rel => exact ⟨_, (true), (by first | rfl | (simp; done) | (simp [*]; done)), H', ⟨by have := HJ2.out; first | omega | exact Nat.le_refl _⟩, ⟨by (with_reducible repeat (first | apply Kd.R_alloc | apply Kd.R_drewN | apply Kd.R_drew)); exact HO153.out⟩, ⟨by repeat (first | (with_reducible first | exact HB.out | apply below_alloc | apply pw_below_drewN | apply below_drew1) | exact HB.out)⟩⟩
        case rest =>
          clear HC9
          try clear c1
          try clear c2
          try clear p2
          try clear c3
          try clear c5
          try clear c6
          try clear c11
          try clear c13
          try clear p2
          obtain ⟨kq, x35_8, rfl, HA, HJ8, HO_5, HB⟩ := hcut
          cases kq with
          | zero => exact absurd HA.out (by simp [arrearslaw6_FrameGoesOn.j1])
          | succ kj8 =>
            have H := HA.out
            clear HA
            simp only [arrearslaw6_FrameGoesOn.j1] at H
            by_cases c16 : x35_8 = true
            · subst c16
              have H1 : (none) = some r := by rw [if_pos rfl] at H; exact H
              clear H
              have H := H1
              clear H1
              exact absurd H (by simp)
            · replace c16 := Bool.eq_false_iff.mpr c16
              subst c16
              have H1 : ((arrearslaw6_plus.f kj8 t150 l1).bind fun t155 => ((frame_Scan.f kj8 t155).bind fun bt158 => ((arrearslaw6_copied.f kj8 l1).bind fun t163 => ((frame_Scan.f kj8 t163).bind fun bt166 => (if (bt158.1.length : Int) = (wrap64 ((l0.length : Int) + (bt166.1.length : Int))) then (if bt158.2.1 = (wrap64 ((t150.length : Int) + bt166.2.1)) then (arrearslaw6_FrameGoesOn.j2 kj8 l0 bt158.1 bt166.1 (bt158.2.2 != bt166.2.2)) else (arrearslaw6_FrameGoesOn.j2 kj8 l0 bt158.1 bt166.1 true)) else (arrearslaw6_FrameGoesOn.j2 kj8 l0 bt158.1 bt166.1 true)))))) = some r := by rw [if_neg (show ¬ (false = true) by decide)] at H; exact H
              clear H
              have H := H1
              clear H1
              replace H := Option.bind_eq_some_iff.mp H
              obtain ⟨t155, A170, H⟩ := H
              replace H : ((frame_Scan.f kj8 t155).bind fun bt158 => ((arrearslaw6_copied.f kj8 l1).bind fun t163 => ((frame_Scan.f kj8 t163).bind fun bt166 => (if (bt158.1.length : Int) = (wrap64 ((l0.length : Int) + (bt166.1.length : Int))) then (if bt158.2.1 = (wrap64 ((t150.length : Int) + bt166.2.1)) then (arrearslaw6_FrameGoesOn.j2 kj8 l0 bt158.1 bt166.1 (bt158.2.2 != bt166.2.2)) else (arrearslaw6_FrameGoesOn.j2 kj8 l0 bt158.1 bt166.1 true)) else (arrearslaw6_FrameGoesOn.j2 kj8 l0 bt158.1 bt166.1 true))))) = some r := H
              have A17 := Aside0.mk A170
              clear A170
              replace H := Option.bind_eq_some_iff.mp H
              obtain ⟨⟨t158, t159, t160⟩, A180, H⟩ := H
              replace H : ((arrearslaw6_copied.f kj8 l1).bind fun t163 => ((frame_Scan.f kj8 t163).bind fun bt166 => (if (t158.length : Int) = (wrap64 ((l0.length : Int) + (bt166.1.length : Int))) then (if t159 = (wrap64 ((t150.length : Int) + bt166.2.1)) then (arrearslaw6_FrameGoesOn.j2 kj8 l0 t158 bt166.1 (t160 != bt166.2.2)) else (arrearslaw6_FrameGoesOn.j2 kj8 l0 t158 bt166.1 true)) else (arrearslaw6_FrameGoesOn.j2 kj8 l0 t158 bt166.1 true)))) = some r := H
              have A18 := Aside0.mk A180
              clear A180
              replace H := Option.bind_eq_some_iff.mp H
              obtain ⟨t163, A190, H⟩ := H
              replace H : ((frame_Scan.f kj8 t163).bind fun bt166 => (if (t158.length : Int) = (wrap64 ((l0.length : Int) + (bt166.1.length : Int))) then (if t159 = (wrap64 ((t150.length : Int) + bt166.2.1)) then (arrearslaw6_FrameGoesOn.j2 kj8 l0 t158 bt166.1 (t160 != bt166.2.2)) else (arrearslaw6_FrameGoesOn.j2 kj8 l0 t158 bt166.1 true)) else (arrearslaw6_FrameGoesOn.j2 kj8 l0 t158 bt166.1 true))) = some r := H
              have A19 := Aside0.mk A190
              clear A190
              replace H := Option.bind_eq_some_iff.mp H
              obtain ⟨⟨t166, t167, t168⟩, A200, H⟩ := H
              replace H : (if (t158.length : Int) = (wrap64 ((l0.length : Int) + (t166.length : Int))) then (if t159 = (wrap64 ((t150.length : Int) + t167)) then (arrearslaw6_FrameGoesOn.j2 kj8 l0 t158 t166 (t160 != t168)) else (arrearslaw6_FrameGoesOn.j2 kj8 l0 t158 t166 true)) else (arrearslaw6_FrameGoesOn.j2 kj8 l0 t158 t166 true)) = some r := H
              have A20 := Aside0.mk A200
              clear A200
              have HC21 := Aside0.mk H
              clear H
              obtain ⟨Ao22, co22, eo22⟩ := Kd.R_slice HO_5.out
              subst eo22
              go_upto_region 8 with (first | ((with_reducible refine gate_callee (f := 35) rfl ?_); refine goesL_ (some 39) rfl rfl Tryd.func35 (by kernel_rfl) rfl #[.slice Ao22 t150.length co22, .slice A1 l1.length c1] rfl (by (try simp only [List.map_toArray, List.map_cons, List.map_nil]); first | done | rfl | (simp only [List.length_drop, List.length_take]; rfl)) ?_; (with_reducible refine (arrearslaw6_plus.calls kj8 _ _ t150 _ _ l1 t155 _ ?side1 ?side2 ?side3 ?side4 A17.out).mono ?_); (case side1 => repeat (first | exact (Kd.R_reads' HO_5.out).2.2 | (with_reducible refine Kd.C_alloc ?_ _) | (with_reducible refine Kd.C_drewN ?_ _) | (with_reducible refine Kd.C_drew ?_))); (case side2 => exact (Kd.R_reads' HO_5.out).2.1); (case side3 => repeat (first | exact (Kd.C_below HR1.out HB.out) | (with_reducible refine Kd.C_alloc ?_ _) | (with_reducible refine Kd.C_drewN ?_ _) | (with_reducible refine Kd.C_drew ?_))); (case side4 => exact HC1.out); rintro e w23 ⟨v156, rfl, ho0, hb⟩; refine ⟨_, rfl, ?_⟩; have n0_ := Aside0.mk (Kd.R_elder' (by (with_reducible repeat (first | apply Kd.R_alloc | apply Kd.R_drewN | apply Kd.R_drew)); exact HO_5.out) (Kd.R_base ho0) hb); have n1_ := Aside0.mk (Kd.R_lower (Kd.R_new' ho0 (Kd.R_lt (by (with_reducible repeat (first | apply Kd.R_alloc | apply Kd.R_drewN | apply Kd.R_drew)); exact HO_5.out))) (below_size (by repeat (first | (with_reducible first | exact HB.out | apply below_alloc | apply pw_below_drewN | apply below_drew1) | exact HB.out)))); have n2_ := Aside0.mk (below_step (by repeat (first | (with_reducible first | exact HB.out | apply below_alloc | apply pw_below_drewN | apply below_drew1) | exact HB.out)) hb); clear HO_5; clear HB; have HO_5 := n0_; have HO157 := n1_; have HB := n2_; clear n0_ n1_ n2_; (try clear hb); (try clear hb2); (try clear hk); (try clear hi); (try clear ho0); obtain ⟨Ao24, co24, eo24⟩ := Kd.R_slice HO157.out; subst eo24) | ((with_reducible refine gate_callee (f := 28) rfl ?_); refine goesL_ (some 40) rfl rfl Tryd.func28 (by kernel_rfl) rfl #[.slice Ao24 t155.length co24] rfl (by (try simp only [List.map_toArray, List.map_cons, List.map_nil]); first | done | rfl | (simp only [List.length_drop, List.length_take]; rfl)) ?_; (with_reducible refine (frame_Scan.calls kj8 _ _ t155 t158 t159 t160 _ ?side1 ?side2 ?sideL A18.out).mono ?_); (case sideL => exact laid_at HL0_.out (by repeat (first | (with_reducible first | exact HB.out | apply below_alloc | apply pw_below_drewN | apply below_drew1 | refine below_set ?_ (Aside0.out (by assumption))) | exact HB.out | exact Below.refl _ _ | exact Drawn0.below (Drawn0.refl _)))); (case side1 => repeat (first | exact (Kd.R_reads' HO157.out).2.2 | (with_reducible refine Kd.C_alloc ?_ _) | (with_reducible refine Kd.C_drewN ?_ _) | (with_reducible refine Kd.C_drew ?_))); (case side2 => exact (Kd.R_reads' HO157.out).2.1); rintro e w25 ⟨v161, rfl, ho0, hb⟩; refine ⟨_, rfl, ?_⟩; have n0_ := Aside0.mk (Kd.R_below (by (with_reducible repeat (first | apply Kd.R_alloc | apply Kd.R_drewN | apply Kd.R_drew)); exact HO_5.out) hb); have n1_ := Aside0.mk (Kd.R_below (by (with_reducible repeat (first | apply Kd.R_alloc | apply Kd.R_drewN | apply Kd.R_drew)); exact HO157.out) hb); have n2_ := Aside0.mk (Kd.S_lower (Kd.S_new' (Kd.S_new' ho0 (Kd.R_lt (by (with_reducible repeat (first | apply Kd.R_alloc | apply Kd.R_drewN | apply Kd.R_drew)); exact HO_5.out))) (Kd.R_lt (by (with_reducible repeat (first | apply Kd.R_alloc | apply Kd.R_drewN | apply Kd.R_drew)); exact HO157.out))) (below_size (by repeat (first | (with_reducible first | exact HB.out | apply below_alloc | apply pw_below_drewN | apply below_drew1) | exact HB.out)))); have n3_ := Aside0.mk (below_step (by repeat (first | (with_reducible first | exact HB.out | apply below_alloc | apply pw_below_drewN | apply below_drew1) | exact HB.out)) hb); clear HO_5; clear HO157; clear HB; have HO_5 := n0_; have HO157 := n1_; have HO162 := n2_; have HB := n3_; clear n0_ n1_ n2_ n3_; (try clear hb); (try clear hb2); (try clear hk); (try clear hi); (try clear ho0)) | ((with_reducible refine gate_callee (f := 30) rfl ?_); refine goesL_ (some 46) rfl rfl Tryd.func30 (by kernel_rfl) rfl #[.slice A1 l1.length c1] rfl (by (try simp only [List.map_toArray, List.map_cons, List.map_nil]); first | done | rfl | (simp only [List.length_drop, List.length_take]; rfl)) ?_; (with_reducible refine (arrearslaw6_copied.calls kj8 _ _ l1 t163 _ ?side1 ?side2 A19.out).mono ?_); (case side1 => repeat (first | exact (Kd.C_below HR1.out HB.out) | (with_reducible refine Kd.C_alloc ?_ _) | (with_reducible refine Kd.C_drewN ?_ _) | (with_reducible refine Kd.C_drew ?_))); (case side2 => exact HC1.out); rintro e w26 ⟨v164, rfl, ho0, hb⟩; refine ⟨_, rfl, ?_⟩; have n0_ := Aside0.mk (Kd.R_elder' (by (with_reducible repeat (first | apply Kd.R_alloc | apply Kd.R_drewN | apply Kd.R_drew)); exact HO_5.out) (Kd.R_base ho0) hb); have n1_ := Aside0.mk (Kd.R_elder' (by (with_reducible repeat (first | apply Kd.R_alloc | apply Kd.R_drewN | apply Kd.R_drew)); exact HO157.out) (Kd.R_base ho0) hb); have n2_ := Aside0.mk (Kd.S_elder' (by (with_reducible repeat (first | apply Kd.S_alloc | apply Kd.S_drewN | apply Kd.S_drew)); exact HO162.out) (Kd.R_base ho0) hb); have n3_ := Aside0.mk (Kd.R_lower (Kd.R_new' (Kd.R_new' ho0 (Kd.R_lt (by (with_reducible repeat (first | apply Kd.R_alloc | apply Kd.R_drewN | apply Kd.R_drew)); exact HO_5.out))) (Kd.R_lt (by (with_reducible repeat (first | apply Kd.R_alloc | apply Kd.R_drewN | apply Kd.R_drew)); exact HO157.out))) (below_size (by repeat (first | (with_reducible first | exact HB.out | apply below_alloc | apply pw_below_drewN | apply below_drew1) | exact HB.out)))); have n4_ := Aside0.mk (below_step (by repeat (first | (with_reducible first | exact HB.out | apply below_alloc | apply pw_below_drewN | apply below_drew1) | exact HB.out)) hb); clear HO_5; clear HO157; clear HO162; clear HB; have HO_5 := n0_; have HO157 := n1_; have HO162 := n2_; have HO165 := n3_; have HB := n4_; clear n0_ n1_ n2_ n3_ n4_; (try clear hb); (try clear hb2); (try clear hk); (try clear hi); (try clear ho0); obtain ⟨Ao27, co27, eo27⟩ := Kd.R_slice HO165.out; subst eo27) | ((with_reducible refine gate_callee (f := 28) rfl ?_); refine goesL_ (some 47) rfl rfl Tryd.func28 (by kernel_rfl) rfl #[.slice Ao27 t163.length co27] rfl (by (try simp only [List.map_toArray, List.map_cons, List.map_nil]); first | done | rfl | (simp only [List.length_drop, List.length_take]; rfl)) ?_; (with_reducible refine (frame_Scan.calls kj8 _ _ t163 t166 t167 t168 _ ?side1 ?side2 ?sideL A20.out).mono ?_); (case sideL => exact laid_at HL0_.out (by repeat (first | (with_reducible first | exact HB.out | apply below_alloc | apply pw_below_drewN | apply below_drew1 | refine below_set ?_ (Aside0.out (by assumption))) | exact HB.out | exact Below.refl _ _ | exact Drawn0.below (Drawn0.refl _)))); (case side1 => repeat (first | exact (Kd.R_reads' HO165.out).2.2 | (with_reducible refine Kd.C_alloc ?_ _) | (with_reducible refine Kd.C_drewN ?_ _) | (with_reducible refine Kd.C_drew ?_))); (case side2 => exact (Kd.R_reads' HO165.out).2.1); rintro e w28 ⟨v169, rfl, ho0, hb⟩; refine ⟨_, rfl, ?_⟩; have n0_ := Aside0.mk (Kd.R_below (by (with_reducible repeat (first | apply Kd.R_alloc | apply Kd.R_drewN | apply Kd.R_drew)); exact HO_5.out) hb); have n1_ := Aside0.mk (Kd.R_below (by (with_reducible repeat (first | apply Kd.R_alloc | apply Kd.R_drewN | apply Kd.R_drew)); exact HO157.out) hb); have n2_ := Aside0.mk (Kd.S_elder' (by (with_reducible repeat (first | apply Kd.S_alloc | apply Kd.S_drewN | apply Kd.S_drew)); exact HO162.out) (Kd.S_base ho0) hb); have n3_ := Aside0.mk (Kd.R_below (by (with_reducible repeat (first | apply Kd.R_alloc | apply Kd.R_drewN | apply Kd.R_drew)); exact HO165.out) hb); have n4_ := Aside0.mk (Kd.S_lower (Kd.S_new' (Kd.S_new' (Kd.S_new' (Kd.S_new' ho0 (Kd.R_lt (by (with_reducible repeat (first | apply Kd.R_alloc | apply Kd.R_drewN | apply Kd.R_drew)); exact HO_5.out))) (Kd.R_lt (by (with_reducible repeat (first | apply Kd.R_alloc | apply Kd.R_drewN | apply Kd.R_drew)); exact HO157.out))) (Kd.S_lt (by (with_reducible repeat (first | apply Kd.S_alloc | apply Kd.S_drewN | apply Kd.S_drew)); exact HO162.out))) (Kd.R_lt (by (with_reducible repeat (first | apply Kd.R_alloc | apply Kd.R_drewN | apply Kd.R_drew)); exact HO165.out))) (below_size (by repeat (first | (with_reducible first | exact HB.out | apply below_alloc | apply pw_below_drewN | apply below_drew1) | exact HB.out)))); have n5_ := Aside0.mk (below_step (by repeat (first | (with_reducible first | exact HB.out | apply below_alloc | apply pw_below_drewN | apply below_drew1) | exact HB.out)) hb); clear HO_5; clear HO157; clear HO162; clear HO165; clear HB; have HO_5 := n0_; have HO157 := n1_; have HO162 := n2_; have HO165 := n3_; have HO170 := n4_; have HB := n5_; clear n0_ n1_ n2_ n3_ n4_ n5_; (try clear hb); (try clear hb2); (try clear hk); (try clear hi); (try clear ho0)))
              (try simp only [Act.put, List.setIfInBounds_toArray, List.set_cons_zero, List.set_cons_succ])
              go_cut [71] (fun v71 wc => ∃ (kq : Nat) (x71_20 : Bool), v71 = .bool x71_20 ∧ Aside0 (arrearslaw6_FrameGoesOn.j2 kq l0 t158 t166 x71_20 = some r) ∧ Aside0 (kq ≤ kj8) ∧ Aside0 (Kd.S (Kd.slice 5 (Kd.int .u8)) 23 wc w.heap.size (fun k_ => some k_ ≠ (v169 : Value).ownBlock) v161 t158) ∧ Aside0 (Kd.S (Kd.slice 5 (Kd.int .u8)) 23 wc w.heap.size (fun k_ => some k_ ≠ (v161 : Value).ownBlock) v169 t166) ∧ Aside0 (Below w.heap.size w wc))
              case first =>
                have H := HC21.out
                clear HC21
                by_cases c29 : (t158.length : Int) = (wrap64 ((l0.length : Int) + (t166.length : Int)))
                · rw [if_pos c29] at H
                  have c29b0 : ((t158.length : Int) == (wrap64 ((l0.length : Int) + (t166.length : Int)))) = true := beq_iff_eq.mpr c29
                  have c29b1 : ((t158.length : Int) != (wrap64 ((l0.length : Int) + (t166.length : Int)))) = false := bne_eq_false_iff_eq.mpr c29
                  clear c29
                  (first | rw [c29b0] | (simp only [i64_w, i32_w]; rw [c29b0]) | skip)
                  by_cases c30 : t159 = (wrap64 ((t150.length : Int) + t167))
                  · rw [if_pos c30] at H
                    have c30b0 : (t159 == (wrap64 ((t150.length : Int) + t167))) = true := beq_iff_eq.mpr c30
                    have c30b1 : (t159 != (wrap64 ((t150.length : Int) + t167))) = false := bne_eq_false_iff_eq.mpr c30
                    clear c30
                    have H' := Aside0.mk H
                    clear H
                    obtain ⟨Ao31, co31, eo31⟩ := Kd.S_slice HO162.out
                    subst eo31
                    obtain ⟨Ao32, co32, eo32⟩ := Kd.S_slice HO170.out
                    subst eo32
                    go_wp2
                    go_meet
                    case rel => exact ⟨_, ((t160 != t168)), (by first | rfl | (simp; done) | (simp [*]; done)), H', ⟨by have := HJ2.out; have := HJ8.out; first | omega | exact Nat.le_refl _⟩, ⟨by (with_reducible repeat (first | apply Kd.S_alloc | apply Kd.S_drewN | apply Kd.S_drew)); exact Kd.S_mono HO162.out (fun _ hk => hk.2)⟩, ⟨by (with_reducible repeat (first | apply Kd.S_alloc | apply Kd.S_drewN | apply Kd.S_drew)); exact Kd.S_mono HO170.out (fun _ hk => hk.1.2)⟩, ⟨by repeat (first | (with_reducible first | exact HB.out | apply below_alloc | apply pw_below_drewN | apply below_drew1) | exact HB.out)⟩⟩
                  · rw [if_neg c30] at H
                    have c30b0 : (t159 == (wrap64 ((t150.length : Int) + t167))) = false := beq_eq_false_iff_ne.mpr c30
                    have c30b1 : (t159 != (wrap64 ((t150.length : Int) + t167))) = true := bne_iff_ne.mpr c30
                    have H' := Aside0.mk H
                    clear H
                    obtain ⟨Ao33, co33, eo33⟩ := Kd.S_slice HO162.out
                    subst eo33
                    obtain ⟨Ao34, co34, eo34⟩ := Kd.S_slice HO170.out
                    subst eo34
                    go_wp2
                    go_meet
                    case rel => exact ⟨_, (true), (by first | rfl | (simp; done) | (simp [*]; done)), H', ⟨by have := HJ2.out; have := HJ8.out; first | omega | exact Nat.le_refl _⟩, ⟨by (with_reducible repeat (first | apply Kd.S_alloc | apply Kd.S_drewN | apply Kd.S_drew)); exact Kd.S_mono HO162.out (fun _ hk => hk.2)⟩, ⟨by (with_reducible repeat (first | apply Kd.S_alloc | apply Kd.S_drewN | apply Kd.S_drew)); exact Kd.S_mono HO170.out (fun _ hk => hk.1.2)⟩, ⟨by repeat (first | (with_reducible first | exact HB.out | apply below_alloc | apply pw_below_drewN | apply below_drew1) | exact HB.out)⟩⟩
                · rw [if_neg c29] at H
                  have c29b0 : ((t158.length : Int) == (wrap64 ((l0.length : Int) + (t166.length : Int)))) = false := beq_eq_false_iff_ne.mpr c29
                  have c29b1 : ((t158.length : Int) != (wrap64 ((l0.length : Int) + (t166.length : Int)))) = true := bne_iff_ne.mpr c29
                  (first | rw [c29b0] | (simp only [i64_w, i32_w]; rw [c29b0]) | skip)
                  have H' := Aside0.mk H
                  clear H
                  obtain ⟨Ao35, co35, eo35⟩ := Kd.S_slice HO162.out
                  subst eo35
                  obtain ⟨Ao36, co36, eo36⟩ := Kd.S_slice HO170.out
                  subst eo36
                  go_wp2
                  go_meet
                  case rel => exact ⟨_, (true), (by first | rfl | (simp; done) | (simp [*]; done)), H', ⟨by have := HJ2.out; have := HJ8.out; first | omega | exact Nat.le_refl _⟩, ⟨by (with_reducible repeat (first | apply Kd.S_alloc | apply Kd.S_drewN | apply Kd.S_drew)); exact Kd.S_mono HO162.out (fun _ hk => hk.2)⟩, ⟨by (with_reducible repeat (first | apply Kd.S_alloc | apply Kd.S_drewN | apply Kd.S_drew)); exact Kd.S_mono HO170.out (fun _ hk => hk.1.2)⟩, ⟨by repeat (first | (with_reducible first | exact HB.out | apply below_alloc | apply pw_below_drewN | apply below_drew1) | exact HB.out)⟩⟩
              case rest =>
                clear HC21
                try clear c1
                try clear c2
                try clear p2
                try clear c3
                try clear c5
                try clear c6
                try clear p6
                try clear c11
                try clear c13
                try clear c16
                try clear c22
                try clear c25
                try clear c28
                try clear c29
                try clear c29b0
                try clear c29b1
                try clear c30
                try clear c30b0
                try clear c30b1
                try clear c35
                try clear p2
                obtain ⟨kq, x71_20, rfl, HA, HJ20, HO_7, HO_10, HB⟩ := hcut
                cases kq with
                | zero => exact absurd HA.out (by simp [arrearslaw6_FrameGoesOn.j2])
                | succ kj20 =>
                  have H := HA.out
                  clear HA
                  simp only [arrearslaw6_FrameGoesOn.j2] at H
                  by_cases c37 : x71_20 = true
                  · subst c37
                    have H1 : (none) = some r := by rw [if_pos rfl] at H; exact H
                    clear H
                    have H := H1
                    clear H1
                    exact absurd H (by simp)
                  · replace c37 := Bool.eq_false_iff.mpr c37
                    subst c37
                    have H1 : (if 0 ≤ (l0.length : Int) then (if (l0.length : Int) ≤ (t158.length : Int) then ((arrearslaw6_alike.f kj20 (t158.take ((l0.length : Int) : Int).toNat) l0).bind fun t175 => (if t175 = true then ((arrearslaw6_alike.f kj20 (t158.drop ((l0.length : Int) : Int).toNat) t166).bind fun t180 => (some t180)) else (none))) else (none)) else (none)) = some r := by rw [if_neg (show ¬ (false = true) by decide)] at H; exact H
                    clear H
                    have H := H1
                    clear H1
                    by_cases c38 : 0 ≤ (l0.length : Int)
                    · rw [if_pos c38] at H
                      have c38b0 := eq_true c38
                      have c38b1 : decide (0 ≤ (l0.length : Int)) = true := decide_eq_true c38
                      clear c38
                      by_cases c39 : (l0.length : Int) ≤ (t158.length : Int)
                      · rw [if_pos c39] at H
                        have c39b0 := eq_true c39
                        have c39b1 : decide ((l0.length : Int) ≤ (t158.length : Int)) = true := decide_eq_true c39
                        clear c39
                        obtain ⟨y171, hy171⟩ : ∃ y_ : List (List Int), y_ = (t158.take ((l0.length : Int) : Int).toNat) := ⟨_, rfl⟩
                        replace H : ((arrearslaw6_alike.f kj20 y171 l0).bind fun t175 => (if t175 = true then ((arrearslaw6_alike.f kj20 (t158.drop ((l0.length : Int) : Int).toNat) t166).bind fun t180 => (some t180)) else (none))) = some r := by first | (rw [hy171]; with_reducible exact H) | (have H2_ := (Option.bind_some _ _).symm.trans H; rw [hy171]; with_reducible exact H2_) | (have H2_ := (Option.bind_some _ _).symm.trans H; with_reducible exact H2_) | with_reducible exact H | (rw [hy171]; exact H) | exact H
                        have Ny171 := Aside0.mk hy171
                        clear hy171
                        replace H := Option.bind_eq_some_iff.mp H
                        obtain ⟨t175, A400, H⟩ := H
                        replace H : (if t175 = true then ((arrearslaw6_alike.f kj20 (t158.drop ((l0.length : Int) : Int).toNat) t166).bind fun t180 => (some t180)) else (none)) = some r := H
                        have A40 := Aside0.mk A400
                        clear A400
                        by_cases c41 : t175 = true
                        · subst c41
                          have H1 : ((arrearslaw6_alike.f kj20 (t158.drop ((l0.length : Int) : Int).toNat) t166).bind fun t180 => (some t180)) = some r := by rw [if_pos rfl] at H; exact H
                          clear H
                          have H := H1
                          clear H1
                          have c42b0 := eq_true (of_decide_eq_true (by first | (with_reducible assumption) | assumption) : 0 ≤ (l0.length : Int))
                          have c43b0 := eq_true (of_decide_eq_true (by first | (with_reducible assumption) | assumption) : (l0.length : Int) ≤ (t158.length : Int))
                          obtain ⟨y176, hy176⟩ : ∃ y_ : List (List Int), y_ = (t158.drop ((l0.length : Int) : Int).toNat) := ⟨_, rfl⟩
                          replace H : ((arrearslaw6_alike.f kj20 y176 t166).bind fun t180 => (some t180)) = some r := by first | (rw [hy176]; with_reducible exact H) | (have H2_ := (Option.bind_some _ _).symm.trans H; rw [hy176]; with_reducible exact H2_) | (have H2_ := (Option.bind_some _ _).symm.trans H; with_reducible exact H2_) | with_reducible exact H | (rw [hy176]; exact H) | exact H
                          have Ny176 := Aside0.mk hy176
                          clear hy176
                          replace H := Option.bind_eq_some_iff.mp H
                          obtain ⟨t180, A440, H⟩ := H
                          replace H : (some t180) = some r := H
                          have A44 := Aside0.mk A440
                          clear A440
                          obtain rfl := Option.some.inj H
                          obtain ⟨Ao46, co46, eo46⟩ := Kd.S_slice HO_7.out
                          subst eo46
                          have q45 : ((l0.length : Int) : Int) ≤ ((t158.length : Int) : Int) := of_decide_eq_true (by first | (with_reducible assumption) | assumption)
                          obtain ⟨i045, hi045, _, hsz45, _⟩ := info_parts info23
                          have hroom45 : t158.length ≤ co46 := (Kd.S_reads' HO_7.out).2.1
                          have hC45 : Kd.C (Kd.slice 5 (Kd.int .u8)) _ Ao46 t158.length t158 := (Kd.S_reads' HO_7.out).2.2
                          have hcut45 := cut_to (P := Tryd.prog) 30 23 .i64 Tryd.underlying30 hi045 Ao46 t158.length co46 (l0.length : Int) (of_decide_eq_true (by first | (with_reducible assumption) | assumption)) q45 hroom45
                          have hr45 := Kd.C_take (m := ((l0.length : Int) : Int).toNat) hC45 (by omega)
                          have hy45 : y171.length = ((l0.length : Int) : Int).toNat := (by rw [Ny171.out, List.length_take]; omega)
                          rw [← Ny171.out] at hr45
                          rw [← hy45] at hcut45
                          have HR174 := Aside0.mk hr45
                          have HC174 := Aside0.mk (show y171.length ≤ co46 from by omega)
                          clear hr45 hC45 hroom45 hi045 hsz45
                          have KY45 := Aside0.mk hy45
                          clear hy45
                          have KL45 := Aside0.mk (show ((l0.length : Int) : Int).toNat ≤ t158.length from by omega)
                          replace q45 := eq_true q45
                          go_wp2_with (first | ((with_reducible refine gate_callee (f := 24) rfl ?_); refine goesL_ (some 77) rfl rfl Tryd.func24 (by kernel_rfl) rfl #[.slice Ao46 y171.length co46, .slice A0 l0.length c0] rfl (by (try simp only [List.map_toArray, List.map_cons, List.map_nil]); first | done | rfl | (simp only [List.length_drop, List.length_take]; rfl)) ?_; (with_reducible refine (arrearslaw6_alike.calls kj20 _ _ y171 _ _ l0 true _ ?side1 ?side2 ?side3 ?side4 A40.out).mono ?_); (case side1 => repeat (first | exact (by repeat (first | (with_reducible exact HR174.out) | (with_reducible refine Kd.C_alloc ?_ _) | (with_reducible refine Kd.C_drewN ?_ _) | (with_reducible refine Kd.C_drew ?_) | exact HR174.out)) | (with_reducible refine Kd.C_alloc ?_ _) | (with_reducible refine Kd.C_drewN ?_ _) | (with_reducible refine Kd.C_drew ?_))); (case side2 => exact HC174.out); (case side3 => repeat (first | exact (Kd.C_below HR0.out HB.out) | (with_reducible refine Kd.C_alloc ?_ _) | (with_reducible refine Kd.C_drewN ?_ _) | (with_reducible refine Kd.C_drew ?_))); (case side4 => exact HC0.out); rintro e w' ⟨rfl, ⟨nd, rfl⟩⟩; refine ⟨_, rfl, ?_⟩; have q47 : ((l0.length : Int) : Int) ≤ ((t158.length : Int) : Int) := of_decide_eq_true (by first | (with_reducible assumption) | assumption); obtain ⟨i047, hi047, _, hsz47, _⟩ := info_parts info23; have hroom47 : t158.length ≤ co46 := (Kd.S_reads' HO_7.out).2.1; have hC47 : Kd.C (Kd.slice 5 (Kd.int .u8)) _ Ao46 t158.length t158 := (Kd.S_reads' HO_7.out).2.2; have q047 : (0 : Int) ≤ ((l0.length : Int) : Int) := of_decide_eq_true (by first | (with_reducible assumption) | assumption); have hcut47 := cut_from (P := Tryd.prog) 30 23 .i64 Tryd.underlying30 hi047 1 hsz47 Ao46 t158.length co46 (l0.length : Int) q047 q47; have hr47 := Kd.C_drop (m := ((l0.length : Int) : Int).toNat) (c := co46) hC47 (by omega) hroom47; obtain ⟨A47, hA47⟩ : ∃ A_, A_ = (if co46 = ((l0.length : Int) : Int).toNat then Ao46 else (Ao46 : Option Addr).map (·.add (((l0.length : Int) : Int).toNat * 1))) := ⟨_, rfl⟩; obtain ⟨c47, hc47⟩ : ∃ c_, c_ = co46 - ((l0.length : Int) : Int).toNat := ⟨_, rfl⟩; have hy47 : y176.length = t158.length - ((l0.length : Int) : Int).toNat := (by rw [Ny176.out, List.length_drop] <;> omega); rw [show (t158).drop ((l0.length : Int) : Int).toNat = y176 from Ny176.out.symm] at hr47; replace hr47 : Kd.C (Kd.slice 5 (Kd.int .u8)) _ A47 y176.length y176 := (by rw [hA47]; exact hr47); rw [← hy47, ← hA47, ← hc47] at hcut47; have HR179 := Aside0.mk hr47; have HC179 := Aside0.mk (show y176.length ≤ c47 from by rw [hy47, hc47]; exact Nat.sub_le_sub_right hroom47 _); clear hr47 hC47 hroom47 hi047 hsz47 hc47; have KY47 := Aside0.mk hy47; have KA47 := Aside0.mk hA47; clear hy47 hA47; have KL47 := Aside0.mk (show ((l0.length : Int) : Int).toNat ≤ t158.length from by omega); replace q47 := eq_true q47; obtain ⟨Ao48, co48, eo48⟩ := Kd.S_slice HO_10.out; subst eo48) | (go_at_call 24; (with_reducible refine (arrearslaw6_alike.calls kj20 _ _ y176 _ _ t166 t180 _ ?side1 ?side2 ?side3 ?side4 A44.out).mono ?_); (case side1 => repeat (first | exact (by repeat (first | (with_reducible exact HR179.out) | (with_reducible refine Kd.C_alloc ?_ _) | (with_reducible refine Kd.C_drewN ?_ _) | (with_reducible refine Kd.C_drew ?_) | exact HR179.out)) | (with_reducible refine Kd.C_alloc ?_ _) | (with_reducible refine Kd.C_drewN ?_ _) | (with_reducible refine Kd.C_drew ?_))); (case side2 => exact HC179.out); (case side3 => repeat (first | exact (Kd.S_reads' HO_10.out).2.2 | (with_reducible refine Kd.C_alloc ?_ _) | (with_reducible refine Kd.C_drewN ?_ _) | (with_reducible refine Kd.C_drew ?_))); (case side4 => exact (Kd.S_reads' HO_10.out).2.1); rintro e w' ⟨rfl, ⟨nd, rfl⟩⟩))
                          go_ret
                          exact ⟨by first | rfl | (simp [errW_none, errW_some] <;> rfl) | (simp [*, errW_none, errW_some] <;> rfl), by repeat (first | (with_reducible first | exact HB.out | apply below_alloc | apply pw_below_drewN | apply below_drew1) | exact HB.out)⟩
                        · replace c41 := Bool.eq_false_iff.mpr c41
                          subst c41
                          have H1 : (none) = some r := by rw [if_neg (show ¬ (false = true) by decide)] at H; exact H
                          clear H
                          have H := H1
                          clear H1
                          exact absurd H (by simp)
                      · rw [if_neg c39] at H
                        exact absurd H (by simp)
                    · rw [if_neg c38] at H
                      exact absurd H (by simp)

/-! ### arrearslaw6_roomy: function 13 -/
def arrearslaw6_roomy.l0 : Nat → List Int → Int → Option (List Int)
  | 0, _, _ => none
  | k + 1, x3, x4 => if x4 < 5 then (if x3.length < 140737488355328 then (arrearslaw6_roomy.l0 k (x3 ++ [(wrap64 (201 + x4)) % 256]) (wrap64 (x4 + 1))) else (none)) else (some x3)
def arrearslaw6_roomy.f (k : Nat) (l0 : List Int) : Option (List Int) := (arrearslaw6_copied.f k l0).bind fun t181 => (arrearslaw6_roomy.l0 k t181 0)
theorem arrearslaw6_roomy.mono_l : ∀ k, (∀ y0 y1, LeO (arrearslaw6_roomy.l0 k y0 y1) (arrearslaw6_roomy.l0 (k + 1) y0 y1))
  | 0 => fun _ _ r h => by simp [arrearslaw6_roomy.l0] at h
  | k + 1 => by
    have ih0 := arrearslaw6_roomy.mono_l k
    · intro y0 y1
      unfold arrearslaw6_roomy.l0
      repeat' first
      | (with_reducible exact ih0 _ _)
      | (with_reducible exact arrearslaw6_copied.mono _ _)
      | (with_reducible exact LeO.refl _)
      | (with_reducible exact LeO.none _)
      | (with_reducible refine LeO.ite ?_ ?_)
      | (with_reducible refine LeO.bind ?_ (fun _ => ?_))
      | exact ih0 _ _
      | exact arrearslaw6_copied.mono _ _
      | exact LeO.none _
      | refine LeO.ite ?_ ?_
      | refine LeO.bind ?_ (fun _ => ?_)
theorem arrearslaw6_roomy.mono : ∀ a0 k, LeO (arrearslaw6_roomy.f k a0) (arrearslaw6_roomy.f (k + 1) a0) := by
  intro a0 k
  have ih0 := arrearslaw6_roomy.mono_l k
  unfold arrearslaw6_roomy.f
  repeat' first
      | (with_reducible exact ih0 _ _)
      | (with_reducible exact arrearslaw6_copied.mono _ _)
      | (with_reducible exact LeO.refl _)
      | (with_reducible exact LeO.none _)
      | (with_reducible refine LeO.ite ?_ ?_)
      | (with_reducible refine LeO.bind ?_ (fun _ => ?_))
      | exact ih0 _ _
      | exact arrearslaw6_copied.mono _ _
      | exact LeO.none _
      | refine LeO.ite ?_ ?_
      | refine LeO.bind ?_ (fun _ => ?_)
set_option maxHeartbeats 8000000 in
set_option maxRecDepth 100000 in
theorem arrearslaw6_roomy.calls (k : Nat) (A0 : Option Addr) (c0 : Nat) (l0 : List Int) (r : List Int) (w : World) (hr0 : Kd.C (Kd.int .u8) w A0 l0.length l0) (hc0 : l0.length ≤ c0) (h : arrearslaw6_roomy.f k l0 = some r) :
    Calls Tryd.prog 13 #[.slice A0 l0.length c0] w fun e w' => ∃ v0_ : Value, e = .returned (v0_) ∧ Kd.R (Kd.int .u8) 5 w' w.heap.size (fun _ => True) v0_ r ∧ Below w.heap.size w w' := by
  have HR0 := Aside0.mk hr0
  have HC0 := Aside0.mk hc0
  clear hr0 hc0
  have HB := Aside0.mk (Below.refl w.heap.size w)
  have H : ((arrearslaw6_copied.f k l0).bind fun t181 => (arrearslaw6_roomy.l0 k t181 0)) = some r := h
  clear h
  replace H := Option.bind_eq_some_iff.mp H
  obtain ⟨t181, A20, H⟩ := H
  replace H : (arrearslaw6_roomy.l0 k t181 0) = some r := H
  have A2 := Aside0.mk A20
  clear A20
  have H' := Aside0.mk H
  clear H
  go_enter Tryd.func13, Tryd.ntmps13
  go_wp2_with (first | ((with_reducible refine gate_callee (f := 30) rfl ?_); refine goesL_ (some 6) rfl rfl Tryd.func30 (by kernel_rfl) rfl #[.slice A0 l0.length c0] rfl (by (try simp only [List.map_toArray, List.map_cons, List.map_nil]); first | done | rfl | (simp only [List.length_drop, List.length_take]; rfl)) ?_; (with_reducible refine (arrearslaw6_copied.calls k _ _ l0 t181 _ ?side1 ?side2 A2.out).mono ?_); (case side1 => repeat (first | exact HR0.out | (with_reducible refine Kd.C_alloc ?_ _) | (with_reducible refine Kd.C_drewN ?_ _) | (with_reducible refine Kd.C_drew ?_))); (case side2 => exact HC0.out); rintro e w3 ⟨v182, rfl, ho0, hb⟩; refine ⟨_, rfl, ?_⟩; have n0_ := Aside0.mk (Kd.R_lower ho0 (below_size (by repeat (first | (with_reducible first | exact HB.out | apply below_alloc | apply pw_below_drewN | apply below_drew1) | exact HB.out)))); have n1_ := Aside0.mk (below_step (by repeat (first | (with_reducible first | exact HB.out | apply below_alloc | apply pw_below_drewN | apply below_drew1) | exact HB.out)) hb); clear HB; have HO183 := n0_; have HB := n1_; clear n0_ n1_; (try clear hb); (try clear hb2); (try clear hk); (try clear hi); (try clear ho0)))
  go_loopg [3, 4] k (fun kq v3 v4 w' => ∃ (x3_1 : List Int) (x4_1 : Int), v4 = .int .i64 x4_1 ∧ Aside0 (arrearslaw6_roomy.l0 kq x3_1 x4_1 = some r) ∧ Aside0 (kq ≤ k) ∧ Aside0 (Kd.R (Kd.int .u8) 5 w' w.heap.size (fun _ => True) v3 x3_1) ∧ Aside0 (Below w.heap.size w w'))
  case atStart => exact ⟨(t181), (0), (by first | rfl | (simp; done) | (simp [*]; done)), H', ⟨Nat.le_refl _⟩, ⟨by (with_reducible repeat (first | apply Kd.R_alloc | apply Kd.R_drewN | apply Kd.R_drew)); exact HO183.out⟩, ⟨by repeat (first | (with_reducible first | exact HB.out | apply below_alloc | apply pw_below_drewN | apply below_drew1) | exact HB.out)⟩⟩
  case round =>
    clear H'
    try clear c1
    try clear p2
    try clear c3
    obtain ⟨x3_1, x4_1, rfl, HA, HK1, HO_3, HB⟩ := hrel
    cases gk with
    | zero => exact absurd HA.out (by simp [arrearslaw6_roomy.l0])
    | succ k1 =>
      have H := HA.out
      clear HA
      simp only [arrearslaw6_roomy.l0] at H
      by_cases c4 : x4_1 < 5
      · rw [if_pos c4] at H
        have c4b0 : decide (x4_1 < 5) = true := decide_eq_true c4
        clear c4
        by_cases c5 : x3_1.length < 140737488355328
        · rw [if_pos c5] at H
          have LMc5 := Aside0.mk c5
          clear c5
          obtain ⟨y184, hy184⟩ : ∃ y_ : List Int, y_ = (x3_1 ++ [(wrap64 (201 + x4_1)) % 256]) := ⟨_, rfl⟩
          replace H : (arrearslaw6_roomy.l0 k1 y184 (wrap64 (x4_1 + 1))) = some r := by first | (rw [hy184]; with_reducible exact H) | (have H2_ := (Option.bind_some _ _).symm.trans H; rw [hy184]; with_reducible exact H2_) | (have H2_ := (Option.bind_some _ _).symm.trans H; with_reducible exact H2_) | with_reducible exact H | (rw [hy184]; exact H) | exact H
          have Ny184 := Aside0.mk hy184
          clear hy184
          have H' := Aside0.mk H
          clear H
          go_wp2_with (first | ((with_reducible refine gate_builtin (b := .append) (xs := #[.tmp 11, .tmp 15]) rfl ?_); at_builtin; refine Kd.R_append (Kd.int .u8) (w0 := w) w.heap.size rfl (.tmp 11) (.tmp 15) 23 5 (.int .u8 0) 1 rfl Tryd.underlying23 info5 rfl (by decide) (by omega) u3 x3_1 ((wrap64 (201 + x4_1)) % 256) [.int .u8 ((wrap64 (201 + x4_1)) % 256)] (fun _ => True) (fun _ => False) rfl rfl ?aP (fun _ hk => hk.elim) ?aF ?aO ?aB ?aS ?aL ?_; (case aP => exact rfl); (case aB => exact (by repeat (first | (with_reducible first | exact HB.out | apply below_alloc | apply pw_below_drewN | apply below_drew1) | exact HB.out))); (case aF => exact (fun _ _ => trivial)); (case aO => exact (by (with_reducible repeat (first | apply Kd.R_alloc | apply Kd.R_drewN | apply Kd.R_drew)); exact HO_3.out)); (case aS => exact (below_size (by repeat (first | (with_reducible first | exact HB.out | apply below_alloc | apply pw_below_drewN | apply below_drew1) | exact HB.out)))); (case aL => have := LMc5.out; omega); intro v185 w6 ho hb hg hat; rw [← Ny184.out] at ho; have n0_ := Aside0.mk (hb); have n1_ := Aside0.mk (ho); clear HB; clear HO_3; have HB := n0_; have HO186 := n1_; clear n0_ n1_; clear ho hb hg hat))
          go_roundg k1
          case measure => have := HK1.out; omega
          case rel => exact ⟨(y184), (wrap64 (x4_1 + 1)), (by first | rfl | (simp; done) | (simp [*]; done)), H', ⟨by have := HK1.out; omega⟩, ⟨by (with_reducible repeat (first | apply Kd.R_alloc | apply Kd.R_drewN | apply Kd.R_drew)); exact HO186.out⟩, ⟨by repeat (first | (with_reducible first | exact HB.out | apply below_alloc | apply pw_below_drewN | apply below_drew1) | exact HB.out)⟩⟩
        · rw [if_neg c5] at H
          exact absurd H (by simp)
      · rw [if_neg c4] at H
        have c4b0 : decide (x4_1 < 5) = false := decide_eq_false c4
        clear c4
        obtain rfl := Option.some.inj H
        go_wp2
        go_ret
        exact ⟨_, by first | rfl | (simp [errW_none, errW_some] <;> rfl) | (simp [*, errW_none, errW_some] <;> rfl), by (with_reducible repeat (first | apply Kd.R_alloc | apply Kd.R_drewN | apply Kd.R_drew)); exact HO_3.out, by repeat (first | (with_reducible first | exact HB.out | apply below_alloc | apply pw_below_drewN | apply below_drew1) | exact HB.out)⟩

-- NOT PRINTED: function 19 (arrearslaw6_turned)

/-! ### arrearsref6_turned: function 38 -/
def arrearsref6_turned.f (a0 : Int) : Option (Int) := some ((4294967295 - a0) % 4294967296)
set_option maxHeartbeats 8000000 in
set_option maxRecDepth 100000 in
theorem arrearsref6_turned.calls (a0 : Int) (r : Int) (w : World) (h : arrearsref6_turned.f a0 = some r) :
    Calls Tryd.prog 38 #[.int .u32 a0] w fun e w' => e = .returned (.int .u32 r) ∧ Drawn0 w w' := by
  have H : (some ((4294967295 - a0) % 4294967296)) = some r := h
  clear h
  obtain rfl := Option.some.inj H
  go_enter Tryd.func38, Tryd.ntmps38
  go_wp2
  go_ret
  exact ⟨by first | rfl | (simp; done) | (simp [*]; done), by repeat (first | exact Drawn0.refl _ | apply Drawn0.step)⟩

/-! ### arrearsref6_laid: function 39 -/
def arrearsref6_laid.l0 : Nat → Int → Int → Option (Int)
  | 0, _, _ => none
  | k + 1, x0, x5 => if x5 < 8 then (if (Int.tmod x0 2) = 1 then (arrearsref6_laid.l0 k (Go.bits .xor .u32 ((Int.tdiv x0 2) % 4294967296) 3988292384) (wrap64 (x5 + 1))) else (arrearsref6_laid.l0 k ((Int.tdiv x0 2) % 4294967296) (wrap64 (x5 + 1)))) else (some x0)
def arrearsref6_laid.f (k : Nat) (a0 : Int) (a1 : Int) : Option (Int) := arrearsref6_laid.l0 k (Go.bits .xor .u32 a0 ((a1) % 4294967296)) 0
theorem arrearsref6_laid.mono_l : ∀ k, (∀ y0 y1, LeO (arrearsref6_laid.l0 k y0 y1) (arrearsref6_laid.l0 (k + 1) y0 y1))
  | 0 => fun _ _ r h => by simp [arrearsref6_laid.l0] at h
  | k + 1 => by
    have ih0 := arrearsref6_laid.mono_l k
    · intro y0 y1
      unfold arrearsref6_laid.l0
      repeat' first
      | (with_reducible exact ih0 _ _)
      | (with_reducible exact LeO.refl _)
      | (with_reducible exact LeO.none _)
      | (with_reducible refine LeO.ite ?_ ?_)
      | (with_reducible refine LeO.bind ?_ (fun _ => ?_))
      | exact ih0 _ _
      | exact LeO.none _
      | refine LeO.ite ?_ ?_
      | refine LeO.bind ?_ (fun _ => ?_)
theorem arrearsref6_laid.mono : ∀ a0 a1 k, LeO (arrearsref6_laid.f k a0 a1) (arrearsref6_laid.f (k + 1) a0 a1) := by
  intro a0 a1 k
  have ih0 := arrearsref6_laid.mono_l k
  unfold arrearsref6_laid.f
  repeat' first
      | (with_reducible exact ih0 _ _)
      | (with_reducible exact LeO.refl _)
      | (with_reducible exact LeO.none _)
      | (with_reducible refine LeO.ite ?_ ?_)
      | (with_reducible refine LeO.bind ?_ (fun _ => ?_))
      | exact ih0 _ _
      | exact LeO.none _
      | refine LeO.ite ?_ ?_
      | refine LeO.bind ?_ (fun _ => ?_)
set_option maxHeartbeats 8000000 in
set_option maxRecDepth 100000 in
theorem arrearsref6_laid.calls (k : Nat) (a0 : Int) (a1 : Int) (r : Int) (w : World) (h : arrearsref6_laid.f k a0 a1 = some r) :
    Calls Tryd.prog 39 #[.int .u32 a0, .int .u8 a1] w fun e w' => e = .returned (.int .u32 r) ∧ Drawn0 w w' := by
  have H : (arrearsref6_laid.l0 k (Go.bits .xor .u32 a0 ((a1) % 4294967296)) 0) = some r := h
  clear h
  have H' := Aside0.mk H
  clear H
  go_enter Tryd.func39, Tryd.ntmps39
  go_wp2
  go_loopg [0, 5] k (fun kq v0 v5 w' => ∃ (x0_1 : Int) (x5_1 : Int), v0 = .int .u32 x0_1 ∧ v5 = .int .i64 x5_1 ∧ Aside0 (arrearsref6_laid.l0 kq x0_1 x5_1 = some r) ∧ Aside0 (kq ≤ k) ∧ Drawn0 w w')
  case atStart => exact ⟨(Go.bits .xor .u32 a0 ((a1) % 4294967296)), (0), (by first | rfl | (simp; done) | (simp [*]; done)), (by first | rfl | (simp; done) | (simp [*]; done)), H', ⟨Nat.le_refl _⟩, by repeat (first | exact Drawn0.refl _ | apply Drawn0.step)⟩
  case round =>
    clear H'
    try clear p2
    obtain ⟨x0_1, x5_1, rfl, rfl, HA, HK1, ⟨m1, rfl⟩⟩ := hrel
    cases gk with
    | zero => exact absurd HA.out (by simp [arrearsref6_laid.l0])
    | succ k1 =>
      have H := HA.out
      clear HA
      simp only [arrearsref6_laid.l0] at H
      by_cases c3 : x5_1 < 8
      · rw [if_pos c3] at H
        have c3b0 : decide (x5_1 < 8) = true := decide_eq_true c3
        clear c3
        by_cases c4 : (Int.tmod x0_1 2) = 1
        · rw [if_pos c4] at H
          have c4b0 : ((Int.tmod x0_1 2) == 1) = true := beq_iff_eq.mpr c4
          have c4b1 : ((Int.tmod x0_1 2) != 1) = false := bne_eq_false_iff_eq.mpr c4
          clear c4
          have H' := Aside0.mk H
          clear H
          go_wp2
          go_roundg k1
          case measure => have := HK1.out; omega
          case rel => exact ⟨(Go.bits .xor .u32 ((Int.tdiv x0_1 2) % 4294967296) 3988292384), (wrap64 (x5_1 + 1)), (by first | rfl | (simp; done) | (simp [*]; done)), (by first | rfl | (simp; done) | (simp [*]; done)), H', ⟨by have := HK1.out; omega⟩, by repeat (first | exact Drawn0.refl _ | apply Drawn0.step)⟩
        · rw [if_neg c4] at H
          have c4b0 : ((Int.tmod x0_1 2) == 1) = false := beq_eq_false_iff_ne.mpr c4
          have c4b1 : ((Int.tmod x0_1 2) != 1) = true := bne_iff_ne.mpr c4
          have H' := Aside0.mk H
          clear H
          go_wp2
          go_roundg k1
          case measure => have := HK1.out; omega
          case rel => exact ⟨((Int.tdiv x0_1 2) % 4294967296), (wrap64 (x5_1 + 1)), (by first | rfl | (simp; done) | (simp [*]; done)), (by first | rfl | (simp; done) | (simp [*]; done)), H', ⟨by have := HK1.out; omega⟩, by repeat (first | exact Drawn0.refl _ | apply Drawn0.step)⟩
      · rw [if_neg c3] at H
        have c3b0 : decide (x5_1 < 8) = false := decide_eq_false c3
        clear c3
        obtain rfl := Option.some.inj H
        go_wp2
        go_ret
        exact ⟨by first | rfl | (simp; done) | (simp [*]; done), by repeat (first | exact Drawn0.refl _ | apply Drawn0.step)⟩

end Go.Proofs.YtgfjmpnlkjocaaaDoor.J
