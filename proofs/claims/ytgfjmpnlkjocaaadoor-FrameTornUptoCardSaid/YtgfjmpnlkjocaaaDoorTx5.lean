-- Written by stubprint.py (wip/) of this work, over the kit's print.py; parts by hand.
import Derived.Test.YtgfjmpnlkjocaaaDoorTx0
import Derived.Test.YtgfjmpnlkjocaaaDoorTx1
import Derived.Test.YtgfjmpnlkjocaaaDoorTx2
import Derived.Test.YtgfjmpnlkjocaaaDoorTx3
import Derived.Test.YtgfjmpnlkjocaaaDoorTx4
namespace Go.Proofs.YtgfjmpnlkjocaaaDoor.T
open Go.RowKit Go.Proofs.YtgfjmpnlkjocaaaDoorW.PrintWords Go.Proofs.YtgfjmpnlkjocaaaDoorW.PrintLast Go.Proofs.YtgfjmpnlkjocaaaDoorW.PrintMore
attribute [local go_sem] max2_int min2_int max_two min_two max_three min_three max_four min_four   -- for this text's walks alone
set_option linter.unusedVariables false
set_option linter.unusedSimpArgs false

/-! ### arrearslaw6_FrameTorn: function 10 -/
mutual
def arrearslaw6_FrameTorn.j0 : Nat → List (List Int) → Int → List Int → Bool → Option (Bool)
  | 0, _, _, _, _ => none
  | k + 1, x0, x1, x5, x29 => if x29 = true then (none) else (if x1 < 0 then (arrearslaw6_FrameTorn.j1 k x0 x1 x5 true) else (arrearslaw6_FrameTorn.j1 k x0 x1 x5 (decide (x1 > (x5.length : Int)))))
def arrearslaw6_FrameTorn.j1 : Nat → List (List Int) → Int → List Int → Bool → Option (Bool)
  | 0, _, _, _, _ => none
  | k + 1, x0, x1, x5, x37 => if x37 = true then (arrearslaw6_FrameTorn.j2 k x0 (x5.length : Int) x5) else (arrearslaw6_FrameTorn.j2 k x0 x1 x5)
def arrearslaw6_FrameTorn.j2 : Nat → List (List Int) → Int → List Int → Option (Bool)
  | 0, _, _, _ => none
  | k + 1, x0, x1, x5 => if 0 ≤ x1 then (if x1 ≤ (x5.length : Int) then ((frame_Scan.f k (x5.take (x1 : Int).toNat)).bind fun bt152 => (arrearslaw6_FrameTorn.l0 k x0 x1 bt152.1 bt152.2.1 bt152.2.2 0 0)) else (none)) else (none)
def arrearslaw6_FrameTorn.j4 : Nat → List (List Int) → Int → List (List Int) → Int → Int → Int → Int → Option (Bool)
  | 0, _, _, _, _, _, _, _ => none
  | k + 1, x0, x1, x7, x8, x9, x10, x11 => if 0 ≤ x11 then (if x11 ≤ (x0.length : Int) then ((arrearslaw6_alike.f k x7 (x0.take (x11 : Int).toNat)).bind fun t163 => (if t163 = true then (arrearslaw6_FrameTorn.j5 k x1 x9 x10 (x8 != x10)) else (arrearslaw6_FrameTorn.j5 k x1 x9 x10 true))) else (none)) else (none)
def arrearslaw6_FrameTorn.j5 : Nat → Int → Int → Int → Bool → Option (Bool)
  | 0, _, _, _, _ => none
  | k + 1, x1, x9, x10, x84 => if x84 = true then (none) else (if x10 = x1 then (some (x9 == 0)) else (some (x9 == 1)))
def arrearslaw6_FrameTorn.l0 : Nat → List (List Int) → Int → List (List Int) → Int → Int → Int → Int → Option (Bool)
  | 0, _, _, _, _, _, _, _ => none
  | k + 1, x0, x1, x7, x8, x9, x10, x11 => if x11 < (x0.length : Int) then (if 0 ≤ x11 then (if (wrap64 ((wrap64 (x10 + ((rd_L1 x0 x11).length : Int))) + 8)) ≤ x1 then (arrearslaw6_FrameTorn.l0 k x0 x1 x7 x8 x9 (wrap64 ((wrap64 (x10 + ((rd_L1 x0 x11).length : Int))) + 8)) (wrap64 (x11 + 1))) else (arrearslaw6_FrameTorn.j4 k x0 x1 x7 x8 x9 x10 x11)) else (none)) else (arrearslaw6_FrameTorn.j4 k x0 x1 x7 x8 x9 x10 x11)
end
def arrearslaw6_FrameTorn.f (k : Nat) (l0 : List (List Int)) (a1 : Int) : Option (Bool) := (arrearslaw6_fits.f k l0).bind fun t139 => (if t139 = true then ((arrearslaw6_twin.f k l0).bind fun t140 => ((frame_Join.f k t140).bind fun bt143 => (if bt143.2 = true then ((arrearslaw6_size.f k l0).bind fun t147 => (arrearslaw6_FrameTorn.j0 k l0 a1 bt143.1 ((bt143.1.length : Int) != t147))) else (arrearslaw6_FrameTorn.j0 k l0 a1 bt143.1 true)))) else (some true))
theorem arrearslaw6_FrameTorn.mono_l : ∀ k, (∀ y0 y1 y2 y3, LeO (arrearslaw6_FrameTorn.j0 k y0 y1 y2 y3) (arrearslaw6_FrameTorn.j0 (k + 1) y0 y1 y2 y3)) ∧ (∀ y0 y1 y2 y3, LeO (arrearslaw6_FrameTorn.j1 k y0 y1 y2 y3) (arrearslaw6_FrameTorn.j1 (k + 1) y0 y1 y2 y3)) ∧ (∀ y0 y1 y2, LeO (arrearslaw6_FrameTorn.j2 k y0 y1 y2) (arrearslaw6_FrameTorn.j2 (k + 1) y0 y1 y2)) ∧ (∀ y0 y1 y2 y3 y4 y5 y6, LeO (arrearslaw6_FrameTorn.j4 k y0 y1 y2 y3 y4 y5 y6) (arrearslaw6_FrameTorn.j4 (k + 1) y0 y1 y2 y3 y4 y5 y6)) ∧ (∀ y0 y1 y2 y3, LeO (arrearslaw6_FrameTorn.j5 k y0 y1 y2 y3) (arrearslaw6_FrameTorn.j5 (k + 1) y0 y1 y2 y3)) ∧ (∀ y0 y1 y2 y3 y4 y5 y6, LeO (arrearslaw6_FrameTorn.l0 k y0 y1 y2 y3 y4 y5 y6) (arrearslaw6_FrameTorn.l0 (k + 1) y0 y1 y2 y3 y4 y5 y6))
  | 0 => ⟨fun _ _ _ _ r h => by simp [arrearslaw6_FrameTorn.j0] at h, fun _ _ _ _ r h => by simp [arrearslaw6_FrameTorn.j1] at h, fun _ _ _ r h => by simp [arrearslaw6_FrameTorn.j2] at h, fun _ _ _ _ _ _ _ r h => by simp [arrearslaw6_FrameTorn.j4] at h, fun _ _ _ _ r h => by simp [arrearslaw6_FrameTorn.j5] at h, fun _ _ _ _ _ _ _ r h => by simp [arrearslaw6_FrameTorn.l0] at h⟩
  | k + 1 => by
    obtain ⟨ih0, ih1, ih2, ih3, ih4, ih5⟩ := arrearslaw6_FrameTorn.mono_l k
    refine ⟨?_, ?_, ?_, ?_, ?_, ?_⟩
    · intro y0 y1 y2 y3
      unfold arrearslaw6_FrameTorn.j0
      repeat' first
      | (with_reducible exact ih0 _ _ _ _)
      | (with_reducible exact ih1 _ _ _ _)
      | (with_reducible exact ih2 _ _ _)
      | (with_reducible exact ih3 _ _ _ _ _ _ _)
      | (with_reducible exact ih4 _ _ _ _)
      | (with_reducible exact ih5 _ _ _ _ _ _ _)
      | (with_reducible exact arrearslaw6_alike.mono _ _ _)
      | (with_reducible exact arrearslaw6_fits.mono _ _)
      | (with_reducible exact arrearslaw6_size.mono _ _)
      | (with_reducible exact arrearslaw6_twin.mono _ _)
      | (with_reducible exact frame_Join.mono _ _)
      | (with_reducible exact frame_Scan.mono _ _)
      | (with_reducible exact LeO.refl _)
      | (with_reducible exact LeO.none _)
      | (with_reducible refine LeO.ite ?_ ?_)
      | (with_reducible refine LeO.bind ?_ (fun _ => ?_))
      | exact ih0 _ _ _ _
      | exact ih1 _ _ _ _
      | exact ih2 _ _ _
      | exact ih3 _ _ _ _ _ _ _
      | exact ih4 _ _ _ _
      | exact ih5 _ _ _ _ _ _ _
      | exact arrearslaw6_alike.mono _ _ _
      | exact arrearslaw6_fits.mono _ _
      | exact arrearslaw6_size.mono _ _
      | exact arrearslaw6_twin.mono _ _
      | exact frame_Join.mono _ _
      | exact frame_Scan.mono _ _
      | exact LeO.none _
      | refine LeO.ite ?_ ?_
      | refine LeO.bind ?_ (fun _ => ?_)
    · intro y0 y1 y2 y3
      unfold arrearslaw6_FrameTorn.j1
      repeat' first
      | (with_reducible exact ih0 _ _ _ _)
      | (with_reducible exact ih1 _ _ _ _)
      | (with_reducible exact ih2 _ _ _)
      | (with_reducible exact ih3 _ _ _ _ _ _ _)
      | (with_reducible exact ih4 _ _ _ _)
      | (with_reducible exact ih5 _ _ _ _ _ _ _)
      | (with_reducible exact arrearslaw6_alike.mono _ _ _)
      | (with_reducible exact arrearslaw6_fits.mono _ _)
      | (with_reducible exact arrearslaw6_size.mono _ _)
      | (with_reducible exact arrearslaw6_twin.mono _ _)
      | (with_reducible exact frame_Join.mono _ _)
      | (with_reducible exact frame_Scan.mono _ _)
      | (with_reducible exact LeO.refl _)
      | (with_reducible exact LeO.none _)
      | (with_reducible refine LeO.ite ?_ ?_)
      | (with_reducible refine LeO.bind ?_ (fun _ => ?_))
      | exact ih0 _ _ _ _
      | exact ih1 _ _ _ _
      | exact ih2 _ _ _
      | exact ih3 _ _ _ _ _ _ _
      | exact ih4 _ _ _ _
      | exact ih5 _ _ _ _ _ _ _
      | exact arrearslaw6_alike.mono _ _ _
      | exact arrearslaw6_fits.mono _ _
      | exact arrearslaw6_size.mono _ _
      | exact arrearslaw6_twin.mono _ _
      | exact frame_Join.mono _ _
      | exact frame_Scan.mono _ _
      | exact LeO.none _
      | refine LeO.ite ?_ ?_
      | refine LeO.bind ?_ (fun _ => ?_)
    · intro y0 y1 y2
      unfold arrearslaw6_FrameTorn.j2
      repeat' first
      | (with_reducible exact ih0 _ _ _ _)
      | (with_reducible exact ih1 _ _ _ _)
      | (with_reducible exact ih2 _ _ _)
      | (with_reducible exact ih3 _ _ _ _ _ _ _)
      | (with_reducible exact ih4 _ _ _ _)
      | (with_reducible exact ih5 _ _ _ _ _ _ _)
      | (with_reducible exact arrearslaw6_alike.mono _ _ _)
      | (with_reducible exact arrearslaw6_fits.mono _ _)
      | (with_reducible exact arrearslaw6_size.mono _ _)
      | (with_reducible exact arrearslaw6_twin.mono _ _)
      | (with_reducible exact frame_Join.mono _ _)
      | (with_reducible exact frame_Scan.mono _ _)
      | (with_reducible exact LeO.refl _)
      | (with_reducible exact LeO.none _)
      | (with_reducible refine LeO.ite ?_ ?_)
      | (with_reducible refine LeO.bind ?_ (fun _ => ?_))
      | exact ih0 _ _ _ _
      | exact ih1 _ _ _ _
      | exact ih2 _ _ _
      | exact ih3 _ _ _ _ _ _ _
      | exact ih4 _ _ _ _
      | exact ih5 _ _ _ _ _ _ _
      | exact arrearslaw6_alike.mono _ _ _
      | exact arrearslaw6_fits.mono _ _
      | exact arrearslaw6_size.mono _ _
      | exact arrearslaw6_twin.mono _ _
      | exact frame_Join.mono _ _
      | exact frame_Scan.mono _ _
      | exact LeO.none _
      | refine LeO.ite ?_ ?_
      | refine LeO.bind ?_ (fun _ => ?_)
    · intro y0 y1 y2 y3 y4 y5 y6
      unfold arrearslaw6_FrameTorn.j4
      repeat' first
      | (with_reducible exact ih0 _ _ _ _)
      | (with_reducible exact ih1 _ _ _ _)
      | (with_reducible exact ih2 _ _ _)
      | (with_reducible exact ih3 _ _ _ _ _ _ _)
      | (with_reducible exact ih4 _ _ _ _)
      | (with_reducible exact ih5 _ _ _ _ _ _ _)
      | (with_reducible exact arrearslaw6_alike.mono _ _ _)
      | (with_reducible exact arrearslaw6_fits.mono _ _)
      | (with_reducible exact arrearslaw6_size.mono _ _)
      | (with_reducible exact arrearslaw6_twin.mono _ _)
      | (with_reducible exact frame_Join.mono _ _)
      | (with_reducible exact frame_Scan.mono _ _)
      | (with_reducible exact LeO.refl _)
      | (with_reducible exact LeO.none _)
      | (with_reducible refine LeO.ite ?_ ?_)
      | (with_reducible refine LeO.bind ?_ (fun _ => ?_))
      | exact ih0 _ _ _ _
      | exact ih1 _ _ _ _
      | exact ih2 _ _ _
      | exact ih3 _ _ _ _ _ _ _
      | exact ih4 _ _ _ _
      | exact ih5 _ _ _ _ _ _ _
      | exact arrearslaw6_alike.mono _ _ _
      | exact arrearslaw6_fits.mono _ _
      | exact arrearslaw6_size.mono _ _
      | exact arrearslaw6_twin.mono _ _
      | exact frame_Join.mono _ _
      | exact frame_Scan.mono _ _
      | exact LeO.none _
      | refine LeO.ite ?_ ?_
      | refine LeO.bind ?_ (fun _ => ?_)
    · intro y0 y1 y2 y3
      unfold arrearslaw6_FrameTorn.j5
      repeat' first
      | (with_reducible exact ih0 _ _ _ _)
      | (with_reducible exact ih1 _ _ _ _)
      | (with_reducible exact ih2 _ _ _)
      | (with_reducible exact ih3 _ _ _ _ _ _ _)
      | (with_reducible exact ih4 _ _ _ _)
      | (with_reducible exact ih5 _ _ _ _ _ _ _)
      | (with_reducible exact arrearslaw6_alike.mono _ _ _)
      | (with_reducible exact arrearslaw6_fits.mono _ _)
      | (with_reducible exact arrearslaw6_size.mono _ _)
      | (with_reducible exact arrearslaw6_twin.mono _ _)
      | (with_reducible exact frame_Join.mono _ _)
      | (with_reducible exact frame_Scan.mono _ _)
      | (with_reducible exact LeO.refl _)
      | (with_reducible exact LeO.none _)
      | (with_reducible refine LeO.ite ?_ ?_)
      | (with_reducible refine LeO.bind ?_ (fun _ => ?_))
      | exact ih0 _ _ _ _
      | exact ih1 _ _ _ _
      | exact ih2 _ _ _
      | exact ih3 _ _ _ _ _ _ _
      | exact ih4 _ _ _ _
      | exact ih5 _ _ _ _ _ _ _
      | exact arrearslaw6_alike.mono _ _ _
      | exact arrearslaw6_fits.mono _ _
      | exact arrearslaw6_size.mono _ _
      | exact arrearslaw6_twin.mono _ _
      | exact frame_Join.mono _ _
      | exact frame_Scan.mono _ _
      | exact LeO.none _
      | refine LeO.ite ?_ ?_
      | refine LeO.bind ?_ (fun _ => ?_)
    · intro y0 y1 y2 y3 y4 y5 y6
      unfold arrearslaw6_FrameTorn.l0
      repeat' first
      | (with_reducible exact ih0 _ _ _ _)
      | (with_reducible exact ih1 _ _ _ _)
      | (with_reducible exact ih2 _ _ _)
      | (with_reducible exact ih3 _ _ _ _ _ _ _)
      | (with_reducible exact ih4 _ _ _ _)
      | (with_reducible exact ih5 _ _ _ _ _ _ _)
      | (with_reducible exact arrearslaw6_alike.mono _ _ _)
      | (with_reducible exact arrearslaw6_fits.mono _ _)
      | (with_reducible exact arrearslaw6_size.mono _ _)
      | (with_reducible exact arrearslaw6_twin.mono _ _)
      | (with_reducible exact frame_Join.mono _ _)
      | (with_reducible exact frame_Scan.mono _ _)
      | (with_reducible exact LeO.refl _)
      | (with_reducible exact LeO.none _)
      | (with_reducible refine LeO.ite ?_ ?_)
      | (with_reducible refine LeO.bind ?_ (fun _ => ?_))
      | exact ih0 _ _ _ _
      | exact ih1 _ _ _ _
      | exact ih2 _ _ _
      | exact ih3 _ _ _ _ _ _ _
      | exact ih4 _ _ _ _
      | exact ih5 _ _ _ _ _ _ _
      | exact arrearslaw6_alike.mono _ _ _
      | exact arrearslaw6_fits.mono _ _
      | exact arrearslaw6_size.mono _ _
      | exact arrearslaw6_twin.mono _ _
      | exact frame_Join.mono _ _
      | exact frame_Scan.mono _ _
      | exact LeO.none _
      | refine LeO.ite ?_ ?_
      | refine LeO.bind ?_ (fun _ => ?_)
theorem arrearslaw6_FrameTorn.mono : ∀ a0 a1 k, LeO (arrearslaw6_FrameTorn.f k a0 a1) (arrearslaw6_FrameTorn.f (k + 1) a0 a1) := by
  intro a0 a1 k
  obtain ⟨ih0, ih1, ih2, ih3, ih4, ih5⟩ := arrearslaw6_FrameTorn.mono_l k
  unfold arrearslaw6_FrameTorn.f
  repeat' first
      | (with_reducible exact ih0 _ _ _ _)
      | (with_reducible exact ih1 _ _ _ _)
      | (with_reducible exact ih2 _ _ _)
      | (with_reducible exact ih3 _ _ _ _ _ _ _)
      | (with_reducible exact ih4 _ _ _ _)
      | (with_reducible exact ih5 _ _ _ _ _ _ _)
      | (with_reducible exact arrearslaw6_alike.mono _ _ _)
      | (with_reducible exact arrearslaw6_fits.mono _ _)
      | (with_reducible exact arrearslaw6_size.mono _ _)
      | (with_reducible exact arrearslaw6_twin.mono _ _)
      | (with_reducible exact frame_Join.mono _ _)
      | (with_reducible exact frame_Scan.mono _ _)
      | (with_reducible exact LeO.refl _)
      | (with_reducible exact LeO.none _)
      | (with_reducible refine LeO.ite ?_ ?_)
      | (with_reducible refine LeO.bind ?_ (fun _ => ?_))
      | exact ih0 _ _ _ _
      | exact ih1 _ _ _ _
      | exact ih2 _ _ _
      | exact ih3 _ _ _ _ _ _ _
      | exact ih4 _ _ _ _
      | exact ih5 _ _ _ _ _ _ _
      | exact arrearslaw6_alike.mono _ _ _
      | exact arrearslaw6_fits.mono _ _
      | exact arrearslaw6_size.mono _ _
      | exact arrearslaw6_twin.mono _ _
      | exact frame_Join.mono _ _
      | exact frame_Scan.mono _ _
      | exact LeO.none _
      | refine LeO.ite ?_ ?_
      | refine LeO.bind ?_ (fun _ => ?_)
set_option maxHeartbeats 8000000 in
set_option maxRecDepth 100000 in
theorem arrearslaw6_FrameTorn.calls (k : Nat) (A0 : Option Addr) (c0 : Nat) (l0 : List (List Int)) (a1 : Int) (r : Bool) (w : World) (hr0 : Kd.C (Kd.slice 5 (Kd.int .u8)) w A0 l0.length l0) (hc0 : l0.length ≤ c0) (hL : Laid w) (h : arrearslaw6_FrameTorn.f k l0 a1 = some r) :
    Calls Tryd.prog 10 #[.slice A0 l0.length c0, .int .i64 a1] w fun e w' => e = .returned (.bool r) ∧ Below w.heap.size w w' := by
  have HL0_ := Aside0.mk hL
  clear hL
  have HR0 := Aside0.mk hr0
  have HC0 := Aside0.mk hc0
  clear hr0 hc0
  have HB := Aside0.mk (Below.refl w.heap.size w)
  have H : ((arrearslaw6_fits.f k l0).bind fun t139 => (if t139 = true then ((arrearslaw6_twin.f k l0).bind fun t140 => ((frame_Join.f k t140).bind fun bt143 => (if bt143.2 = true then ((arrearslaw6_size.f k l0).bind fun t147 => (arrearslaw6_FrameTorn.j0 k l0 a1 bt143.1 ((bt143.1.length : Int) != t147))) else (arrearslaw6_FrameTorn.j0 k l0 a1 bt143.1 true)))) else (some true))) = some r := h
  clear h
  replace H := Option.bind_eq_some_iff.mp H
  obtain ⟨t139, A30, H⟩ := H
  replace H : (if t139 = true then ((arrearslaw6_twin.f k l0).bind fun t140 => ((frame_Join.f k t140).bind fun bt143 => (if bt143.2 = true then ((arrearslaw6_size.f k l0).bind fun t147 => (arrearslaw6_FrameTorn.j0 k l0 a1 bt143.1 ((bt143.1.length : Int) != t147))) else (arrearslaw6_FrameTorn.j0 k l0 a1 bt143.1 true)))) else (some true)) = some r := H
  have A3 := Aside0.mk A30
  clear A30
  by_cases c4 : t139 = true
  · subst c4
    have H1 : ((arrearslaw6_twin.f k l0).bind fun t140 => ((frame_Join.f k t140).bind fun bt143 => (if bt143.2 = true then ((arrearslaw6_size.f k l0).bind fun t147 => (arrearslaw6_FrameTorn.j0 k l0 a1 bt143.1 ((bt143.1.length : Int) != t147))) else (arrearslaw6_FrameTorn.j0 k l0 a1 bt143.1 true)))) = some r := by rw [if_pos rfl] at H; exact H
    clear H
    have H := H1
    clear H1
    replace H := Option.bind_eq_some_iff.mp H
    obtain ⟨t140, A50, H⟩ := H
    replace H : ((frame_Join.f k t140).bind fun bt143 => (if bt143.2 = true then ((arrearslaw6_size.f k l0).bind fun t147 => (arrearslaw6_FrameTorn.j0 k l0 a1 bt143.1 ((bt143.1.length : Int) != t147))) else (arrearslaw6_FrameTorn.j0 k l0 a1 bt143.1 true))) = some r := H
    have A5 := Aside0.mk A50
    clear A50
    replace H := Option.bind_eq_some_iff.mp H
    obtain ⟨⟨t143, t144⟩, A60, H⟩ := H
    replace H : (if t144 = true then ((arrearslaw6_size.f k l0).bind fun t147 => (arrearslaw6_FrameTorn.j0 k l0 a1 t143 ((t143.length : Int) != t147))) else (arrearslaw6_FrameTorn.j0 k l0 a1 t143 true)) = some r := H
    have A6 := Aside0.mk A60
    clear A60
    have HC7 := Aside0.mk H
    clear H
    go_enter Tryd.func10, Tryd.ntmps10
    go_upto_region 4 with (first | ((with_reducible refine gate_callee (f := 37) rfl ?_); refine goesL_ (some 13) rfl rfl Tryd.func37 (by kernel_rfl) rfl #[.slice A0 l0.length c0] rfl (by (try simp only [List.map_toArray, List.map_cons, List.map_nil]); first | done | rfl | (simp only [List.length_drop, List.length_take]; rfl)) ?_; (with_reducible refine (arrearslaw6_fits.calls k _ _ l0 true _ ?side1 ?side2 A3.out).mono ?_); (case side1 => repeat (first | exact HR0.out | (with_reducible refine Kd.C_alloc ?_ _) | (with_reducible refine Kd.C_drewN ?_ _) | (with_reducible refine Kd.C_drew ?_))); (case side2 => exact HC0.out); rintro e w' ⟨rfl, ⟨nd, rfl⟩⟩; refine ⟨_, rfl, ?_⟩) | ((with_reducible refine gate_callee (f := 25) rfl ?_); refine goesL_ (some 17) rfl rfl Tryd.func25 (by kernel_rfl) rfl #[.slice A0 l0.length c0] rfl (by (try simp only [List.map_toArray, List.map_cons, List.map_nil]); first | done | rfl | (simp only [List.length_drop, List.length_take]; rfl)) ?_; (with_reducible refine (arrearslaw6_twin.calls k _ _ l0 t140 _ ?side1 ?side2 A5.out).mono ?_); (case side1 => repeat (first | exact HR0.out | (with_reducible refine Kd.C_alloc ?_ _) | (with_reducible refine Kd.C_drewN ?_ _) | (with_reducible refine Kd.C_drew ?_))); (case side2 => exact HC0.out); rintro e w8 ⟨v141, rfl, ho0, hb⟩; refine ⟨_, rfl, ?_⟩; have n0_ := Aside0.mk (Kd.S_lower ho0 (below_size (by repeat (first | (with_reducible first | exact HB.out | apply below_alloc | apply pw_below_drewN | apply below_drew1) | exact HB.out)))); have n1_ := Aside0.mk (below_step (by repeat (first | (with_reducible first | exact HB.out | apply below_alloc | apply pw_below_drewN | apply below_drew1) | exact HB.out)) hb); clear HB; have HO142 := n0_; have HB := n1_; clear n0_ n1_; (try clear hb); (try clear hb2); (try clear hk); (try clear hi); (try clear ho0); obtain ⟨Ao9, co9, eo9⟩ := Kd.S_slice HO142.out; subst eo9) | ((with_reducible refine gate_callee (f := 22) rfl ?_); refine goesL_ (some 18) rfl rfl Tryd.func22 (by kernel_rfl) rfl #[.slice Ao9 t140.length co9] rfl (by (try simp only [List.map_toArray, List.map_cons, List.map_nil]); first | done | rfl | (simp only [List.length_drop, List.length_take]; rfl)) ?_; (with_reducible refine (frame_Join.calls k _ _ t140 t143 t144 _ ?side1 ?side2 ?sideL A6.out).mono ?_); (case sideL => exact laid_at HL0_.out (by repeat (first | (with_reducible first | exact HB.out | apply below_alloc | apply pw_below_drewN | apply below_drew1 | refine below_set ?_ (Aside0.out (by assumption))) | exact HB.out | exact Below.refl _ _ | exact Drawn0.below (Drawn0.refl _)))); (case side1 => repeat (first | exact (Kd.S_reads' HO142.out).2.2 | (with_reducible refine Kd.C_alloc ?_ _) | (with_reducible refine Kd.C_drewN ?_ _) | (with_reducible refine Kd.C_drew ?_))); (case side2 => exact (Kd.S_reads' HO142.out).2.1); rintro e w10 ⟨v145, rfl, ho0, hb⟩; refine ⟨_, rfl, ?_⟩; have n0_ := Aside0.mk (Kd.S_elder' (by (with_reducible repeat (first | apply Kd.S_alloc | apply Kd.S_drewN | apply Kd.S_drew)); exact HO142.out) (Kd.R_base ho0) hb); have n1_ := Aside0.mk (Kd.R_lower ho0 (below_size (by repeat (first | (with_reducible first | exact HB.out | apply below_alloc | apply pw_below_drewN | apply below_drew1) | exact HB.out)))); have n2_ := Aside0.mk (below_step (by repeat (first | (with_reducible first | exact HB.out | apply below_alloc | apply pw_below_drewN | apply below_drew1) | exact HB.out)) hb); clear HO142; clear HB; have HO142 := n0_; have HO146 := n1_; have HB := n2_; clear n0_ n1_ n2_; (try clear hb); (try clear hb2); (try clear hk); (try clear hi); (try clear ho0)))
    (try simp only [Act.put, List.setIfInBounds_toArray, List.set_cons_zero, List.set_cons_succ])
    go_cut [29] (fun v29 wc => ∃ (kq : Nat) (x29_6 : Bool), v29 = .bool x29_6 ∧ Aside0 (arrearslaw6_FrameTorn.j0 kq l0 a1 t143 x29_6 = some r) ∧ Aside0 (kq ≤ k) ∧ Aside0 (Kd.R (Kd.int .u8) 5 wc w.heap.size (fun _ => True) v145 t143) ∧ Aside0 (Below w.heap.size w wc))
    case first =>
      have H := HC7.out
      clear HC7
      by_cases c11 : t144 = true
      · subst c11
        have H1 : ((arrearslaw6_size.f k l0).bind fun t147 => (arrearslaw6_FrameTorn.j0 k l0 a1 t143 ((t143.length : Int) != t147))) = some r := by rw [if_pos rfl] at H; exact H
        clear H
        have H := H1
        clear H1
        replace H := Option.bind_eq_some_iff.mp H
        obtain ⟨t147, A120, H⟩ := H
        replace H : (arrearslaw6_FrameTorn.j0 k l0 a1 t143 ((t143.length : Int) != t147)) = some r := H
        have A12 := Aside0.mk A120
        clear A120
        have H' := Aside0.mk H
        clear H
        obtain ⟨Ao13, co13, eo13⟩ := Kd.R_slice HO146.out
        subst eo13
        go_wp2_with (first | (go_at_call 20; (with_reducible refine (arrearslaw6_size.calls k _ _ l0 t147 _ ?side1 ?side2 A12.out).mono ?_); (case side1 => repeat (first | exact (Kd.C_below HR0.out HB.out) | (with_reducible refine Kd.C_alloc ?_ _) | (with_reducible refine Kd.C_drewN ?_ _) | (with_reducible refine Kd.C_drew ?_))); (case side2 => exact HC0.out); rintro e w' ⟨rfl, ⟨nd, rfl⟩⟩))
        go_meet
        case rel => exact ⟨_, (((t143.length : Int) != t147)), (by first | rfl | (simp; done) | (simp [*]; done)), H', ⟨by first | omega | exact Nat.le_refl _⟩, ⟨by (with_reducible repeat (first | apply Kd.R_alloc | apply Kd.R_drewN | apply Kd.R_drew)); exact HO146.out⟩, ⟨by repeat (first | (with_reducible first | exact HB.out | apply below_alloc | apply pw_below_drewN | apply below_drew1) | exact HB.out)⟩⟩
      · replace c11 := Bool.eq_false_iff.mpr c11
        subst c11
        have H1 : (arrearslaw6_FrameTorn.j0 k l0 a1 t143 true) = some r := by rw [if_neg (show ¬ (false = true) by decide)] at H; exact H
        clear H
        have H := H1
        clear H1
        have H' := Aside0.mk H
        clear H
        go_wp2
        go_meet
        case rel => exact ⟨_, (true), (by first | rfl | (simp; done) | (simp [*]; done)), H', ⟨by first | omega | exact Nat.le_refl _⟩, ⟨by (with_reducible repeat (first | apply Kd.R_alloc | apply Kd.R_drewN | apply Kd.R_drew)); exact HO146.out⟩, ⟨by repeat (first | (with_reducible first | exact HB.out | apply below_alloc | apply pw_below_drewN | apply below_drew1) | exact HB.out)⟩⟩
    case rest =>
      clear HC7
      try clear c1
      try clear c2
      try clear p2
      try clear c3
      try clear c4
      try clear c10
      try clear c11
      obtain ⟨kq, x29_6, rfl, HA, HJ6, HO_5, HB⟩ := hcut
      cases kq with
      | zero => exact absurd HA.out (by simp [arrearslaw6_FrameTorn.j0])
      | succ kj6 =>
        have H := HA.out
        clear HA
        simp only [arrearslaw6_FrameTorn.j0] at H
        by_cases c14 : x29_6 = true
        · subst c14
          have H1 : (none) = some r := by rw [if_pos rfl] at H; exact H
          clear H
          have H := H1
          clear H1
          exact absurd H (by simp)
        · replace c14 := Bool.eq_false_iff.mpr c14
          subst c14
          have H1 : (if a1 < 0 then (arrearslaw6_FrameTorn.j1 kj6 l0 a1 t143 true) else (arrearslaw6_FrameTorn.j1 kj6 l0 a1 t143 (decide (a1 > (t143.length : Int))))) = some r := by rw [if_neg (show ¬ (false = true) by decide)] at H; exact H
          clear H
          have H := H1
          clear H1
          have HC15 := Aside0.mk H
          clear H
          go_upto_region 6 with (fail)
          go_cut [37] (fun v37 wc => ∃ (kq : Nat) (x37_14 : Bool), v37 = .bool x37_14 ∧ Aside0 (arrearslaw6_FrameTorn.j1 kq l0 a1 t143 x37_14 = some r) ∧ Aside0 (kq ≤ kj6) ∧ Aside0 (Kd.R (Kd.int .u8) 5 wc w.heap.size (fun _ => True) v145 t143) ∧ Aside0 (Below w.heap.size w wc))
          case first =>
            have H := HC15.out
            clear HC15
            by_cases c16 : a1 < 0
            · rw [if_pos c16] at H
              have c16b0 : decide (a1 < 0) = true := decide_eq_true c16
              clear c16
              (first | rw [c16b0] | (simp only [i64_w, i32_w]; rw [c16b0]) | skip)
              have H' := Aside0.mk H
              clear H
              go_wp2
              go_meet
              case rel => exact ⟨_, (true), (by first | rfl | (simp; done) | (simp [*]; done)), H', ⟨by have := HJ6.out; first | omega | exact Nat.le_refl _⟩, ⟨by (with_reducible repeat (first | apply Kd.R_alloc | apply Kd.R_drewN | apply Kd.R_drew)); exact HO_5.out⟩, ⟨by repeat (first | (with_reducible first | exact HB.out | apply below_alloc | apply pw_below_drewN | apply below_drew1) | exact HB.out)⟩⟩
            · rw [if_neg c16] at H
              have c16b0 : decide (a1 < 0) = false := decide_eq_false c16
              clear c16
              (first | rw [c16b0] | (simp only [i64_w, i32_w]; rw [c16b0]) | skip)
              have H' := Aside0.mk H
              clear H
              obtain ⟨Ao17, co17, eo17⟩ := Kd.R_slice HO_5.out
              subst eo17
              go_wp2
              go_meet
              case rel => exact ⟨_, (decide (a1 > (t143.length : Int))), (by first | rfl | (simp; done) | (simp [*]; done)), H', ⟨by have := HJ6.out; first | omega | exact Nat.le_refl _⟩, ⟨by (with_reducible repeat (first | apply Kd.R_alloc | apply Kd.R_drewN | apply Kd.R_drew)); exact HO_5.out⟩, ⟨by repeat (first | (with_reducible first | exact HB.out | apply below_alloc | apply pw_below_drewN | apply below_drew1) | exact HB.out)⟩⟩
          case rest =>
            clear HC15
            try clear c1
            try clear c2
            try clear p2
            try clear c3
            try clear c4
            try clear c10
            try clear c11
            try clear c14
            try clear c16
            try clear c16b0
            try clear p2
            obtain ⟨kq, x37_14, rfl, HA, HJ14, HO_5, HB⟩ := hcut
            cases kq with
            | zero => exact absurd HA.out (by simp [arrearslaw6_FrameTorn.j1])
            | succ kj14 =>
              have H := HA.out
              clear HA
              simp only [arrearslaw6_FrameTorn.j1] at H
              have HC18 := Aside0.mk H
              clear H
              go_upto_if 37 with (fail)
              go_cut [1] (fun v1 wc => ∃ (kq : Nat) (x1_17 : Int), v1 = .int .i64 x1_17 ∧ Aside0 (arrearslaw6_FrameTorn.j2 kq l0 x1_17 t143 = some r) ∧ Aside0 (kq ≤ kj14) ∧ Aside0 (Kd.R (Kd.int .u8) 5 wc w.heap.size (fun _ => True) v145 t143) ∧ Aside0 (Below w.heap.size w wc))
              case first =>
                have H := HC18.out
                clear HC18
                by_cases c19 : x37_14 = true
                · subst c19
                  have H1 : (arrearslaw6_FrameTorn.j2 kj14 l0 (t143.length : Int) t143) = some r := by rw [if_pos rfl] at H; exact H
                  clear H
                  have H := H1
                  clear H1
                  have H' := Aside0.mk H
                  clear H
                  obtain ⟨Ao20, co20, eo20⟩ := Kd.R_slice HO_5.out
                  subst eo20
                  go_wp2
                  go_meet
                  case rel => exact ⟨_, ((t143.length : Int)), (by first | rfl | (simp; done) | (simp [*]; done)), H', ⟨by have := HJ6.out; have := HJ14.out; first | omega | exact Nat.le_refl _⟩, ⟨by (with_reducible repeat (first | apply Kd.R_alloc | apply Kd.R_drewN | apply Kd.R_drew)); exact HO_5.out⟩, ⟨by repeat (first | (with_reducible first | exact HB.out | apply below_alloc | apply pw_below_drewN | apply below_drew1) | exact HB.out)⟩⟩
                · replace c19 := Bool.eq_false_iff.mpr c19
                  subst c19
                  have H1 : (arrearslaw6_FrameTorn.j2 kj14 l0 a1 t143) = some r := by rw [if_neg (show ¬ (false = true) by decide)] at H; exact H
                  clear H
                  have H := H1
                  clear H1
                  have H' := Aside0.mk H
                  clear H
                  go_wp2
                  go_meet
                  case rel => exact ⟨_, (a1), (by first | rfl | (simp; done) | (simp [*]; done)), H', ⟨by have := HJ6.out; have := HJ14.out; first | omega | exact Nat.le_refl _⟩, ⟨by (with_reducible repeat (first | apply Kd.R_alloc | apply Kd.R_drewN | apply Kd.R_drew)); exact HO_5.out⟩, ⟨by repeat (first | (with_reducible first | exact HB.out | apply below_alloc | apply pw_below_drewN | apply below_drew1) | exact HB.out)⟩⟩
              case rest =>
                clear HC18
                try clear c1
                try clear c2
                try clear p2
                try clear c3
                try clear c4
                try clear c10
                try clear c11
                try clear c14
                try clear c16
                try clear c16b0
                try clear c19
                try clear p2
                obtain ⟨kq, x1_17, rfl, HA, HJ17, HO_5, HB⟩ := hcut
                cases kq with
                | zero => exact absurd HA.out (by simp [arrearslaw6_FrameTorn.j2])
                | succ kj17 =>
                  have H := HA.out
                  clear HA
                  simp only [arrearslaw6_FrameTorn.j2] at H
                  by_cases c21 : 0 ≤ x1_17
                  · rw [if_pos c21] at H
                    have c21b0 := eq_true c21
                    have c21b1 : decide (0 ≤ x1_17) = true := decide_eq_true c21
                    clear c21
                    by_cases c22 : x1_17 ≤ (t143.length : Int)
                    · rw [if_pos c22] at H
                      have c22b0 := eq_true c22
                      have c22b1 : decide (x1_17 ≤ (t143.length : Int)) = true := decide_eq_true c22
                      clear c22
                      obtain ⟨y148, hy148⟩ : ∃ y_ : List Int, y_ = (t143.take (x1_17 : Int).toNat) := ⟨_, rfl⟩
                      replace H : ((frame_Scan.f kj17 y148).bind fun bt152 => (arrearslaw6_FrameTorn.l0 kj17 l0 x1_17 bt152.1 bt152.2.1 bt152.2.2 0 0)) = some r := by first | (rw [hy148]; with_reducible exact H) | (have H2_ := (Option.bind_some _ _).symm.trans H; rw [hy148]; with_reducible exact H2_) | (have H2_ := (Option.bind_some _ _).symm.trans H; with_reducible exact H2_) | with_reducible exact H | (rw [hy148]; exact H) | exact H
                      have Ny148 := Aside0.mk hy148
                      clear hy148
                      replace H := Option.bind_eq_some_iff.mp H
                      obtain ⟨⟨t152, t153, t154⟩, A230, H⟩ := H
                      replace H : (arrearslaw6_FrameTorn.l0 kj17 l0 x1_17 t152 t153 t154 0 0) = some r := H
                      have A23 := Aside0.mk A230
                      clear A230
                      have HC24 := Aside0.mk H
                      clear H
                      obtain ⟨Ao26, co26, eo26⟩ := Kd.R_slice HO_5.out
                      subst eo26
                      have q25 : (x1_17 : Int) ≤ ((t143.length : Int) : Int) := of_decide_eq_true (by first | (with_reducible assumption) | assumption)
                      obtain ⟨i025, hi025, _, hsz25, _⟩ := info_parts info5
                      have hroom25 : t143.length ≤ co26 := (Kd.R_reads' HO_5.out).2.1
                      have hC25 : Kd.C (Kd.int .u8) _ Ao26 t143.length t143 := (Kd.R_reads' HO_5.out).2.2
                      have hcut25 := cut_to (P := Tryd.prog) 23 5 .i64 Tryd.underlying23 hi025 Ao26 t143.length co26 x1_17 (of_decide_eq_true (by first | (with_reducible assumption) | assumption)) q25 hroom25
                      have hr25 := Kd.C_take (m := (x1_17 : Int).toNat) hC25 (by omega)
                      have hy25 : y148.length = (x1_17 : Int).toNat := (by rw [Ny148.out, List.length_take]; omega)
                      rw [← Ny148.out] at hr25
                      rw [← hy25] at hcut25
                      have HR151 := Aside0.mk hr25
                      have HC151 := Aside0.mk (show y148.length ≤ co26 from by omega)
                      clear hr25 hC25 hroom25 hi025 hsz25
                      have KY25 := Aside0.mk hy25
                      clear hy25
                      have KL25 := Aside0.mk (show (x1_17 : Int).toNat ≤ t143.length from by omega)
                      replace q25 := eq_true q25
                      go_upto_block 0 with (first | ((with_reducible refine gate_callee (f := 28) rfl ?_); refine goesL_ (some 44) rfl rfl Tryd.func28 (by kernel_rfl) rfl #[.slice Ao26 y148.length co26] rfl (by (try simp only [List.map_toArray, List.map_cons, List.map_nil]); first | done | rfl | (simp only [List.length_drop, List.length_take]; rfl)) ?_; (with_reducible refine (frame_Scan.calls kj17 _ _ y148 t152 t153 t154 _ ?side1 ?side2 ?sideL A23.out).mono ?_); (case sideL => exact laid_at HL0_.out (by repeat (first | (with_reducible first | exact HB.out | apply below_alloc | apply pw_below_drewN | apply below_drew1 | refine below_set ?_ (Aside0.out (by assumption))) | exact HB.out | exact Below.refl _ _ | exact Drawn0.below (Drawn0.refl _)))); (case side1 => repeat (first | exact (by repeat (first | (with_reducible exact HR151.out) | (with_reducible refine Kd.C_alloc ?_ _) | (with_reducible refine Kd.C_drewN ?_ _) | (with_reducible refine Kd.C_drew ?_) | exact HR151.out)) | (with_reducible refine Kd.C_alloc ?_ _) | (with_reducible refine Kd.C_drewN ?_ _) | (with_reducible refine Kd.C_drew ?_))); (case side2 => exact HC151.out); rintro e w27 ⟨v155, rfl, ho0, hb⟩; refine ⟨_, rfl, ?_⟩; have n0_ := Aside0.mk (Kd.R_below (by (with_reducible repeat (first | apply Kd.R_alloc | apply Kd.R_drewN | apply Kd.R_drew)); exact HO_5.out) hb); have n1_ := Aside0.mk (Kd.S_lower (Kd.S_new' ho0 (Kd.R_lt (by (with_reducible repeat (first | apply Kd.R_alloc | apply Kd.R_drewN | apply Kd.R_drew)); exact HO_5.out))) (below_size (by repeat (first | (with_reducible first | exact HB.out | apply below_alloc | apply pw_below_drewN | apply below_drew1) | exact HB.out)))); have n2_ := Aside0.mk (Kd.C_below (by repeat (first | (with_reducible exact HR151.out) | (with_reducible refine Kd.C_alloc ?_ _) | (with_reducible refine Kd.C_drewN ?_ _) | (with_reducible refine Kd.C_drew ?_) | exact HR151.out)) hb); have n3_ := Aside0.mk (below_step (by repeat (first | (with_reducible first | exact HB.out | apply below_alloc | apply pw_below_drewN | apply below_drew1) | exact HB.out)) hb); clear HO_5; clear HR151; clear HB; have HO_5 := n0_; have HO156 := n1_; have HR151 := n2_; have HB := n3_; clear n0_ n1_ n2_ n3_; (try clear hb); (try clear hb2); (try clear hk); (try clear hi); (try clear ho0)))
                      (try simp only [Act.put, List.setIfInBounds_toArray, List.set_cons_zero, List.set_cons_succ])
                      go_cut [10, 11] (fun v10 v11 wc => ∃ (kq : Nat) (x10_23 : Int) (x11_23 : Int), v10 = .int .i64 x10_23 ∧ v11 = .int .i64 x11_23 ∧ Aside0 (arrearslaw6_FrameTorn.j4 kq l0 x1_17 t152 t153 t154 x10_23 x11_23 = some r) ∧ Aside0 (kq ≤ kj17) ∧ Aside0 (Kd.S (Kd.slice 5 (Kd.int .u8)) 23 wc w.heap.size (fun _ => True) v155 t152) ∧ Aside0 (Kd.C (Kd.int .u8) wc Ao26 y148.length y148) ∧ Aside0 (Below w.heap.size w wc))
                      case first =>
                        have H := HC24.out
                        clear HC24
                        have H' := Aside0.mk H
                        clear H
                        go_wp2
                        go_loopg [10, 11] kj17 (fun kq v10 v11 w' => ∃ (x10_4 : Int) (x11_4 : Int), v10 = .int .i64 x10_4 ∧ v11 = .int .i64 x11_4 ∧ Aside0 (arrearslaw6_FrameTorn.l0 kq l0 x1_17 t152 t153 t154 x10_4 x11_4 = some r) ∧ Aside0 (kq ≤ kj17) ∧ Aside0 (Kd.S (Kd.slice 5 (Kd.int .u8)) 23 w' w.heap.size (fun _ => True) v155 t152) ∧ Aside0 (Kd.C (Kd.int .u8) w' Ao26 y148.length y148) ∧ Aside0 (Below w.heap.size w w'))
                        case atStart => exact ⟨(0), (0), (by first | rfl | (simp; done) | (simp [*]; done)), (by first | rfl | (simp; done) | (simp [*]; done)), H', ⟨Nat.le_refl _⟩, ⟨by (with_reducible repeat (first | apply Kd.S_alloc | apply Kd.S_drewN | apply Kd.S_drew)); exact Kd.S_mono HO156.out (fun _ hk => trivial)⟩, ⟨by repeat (first | (with_reducible exact HR151.out) | (with_reducible refine Kd.C_alloc ?_ _) | (with_reducible refine Kd.C_drewN ?_ _) | (with_reducible refine Kd.C_drew ?_) | exact HR151.out)⟩, ⟨by repeat (first | (with_reducible first | exact HB.out | apply below_alloc | apply pw_below_drewN | apply below_drew1) | exact HB.out)⟩⟩
                        case round =>
                          clear H'
                          try clear c1
                          try clear c2
                          try clear p2
                          try clear q2
                          try clear c3
                          try clear c4
                          try clear c10
                          try clear c11
                          try clear c14
                          try clear c16
                          try clear c16b0
                          try clear c19
                          try clear c21
                          try clear c21b0
                          try clear c21b1
                          try clear c22
                          try clear c22b0
                          try clear c22b1
                          try clear c25
                          try clear q25
                          try clear p2
                          try clear q25
                          obtain ⟨x10_4, x11_4, rfl, rfl, HA, HK4, HO_7, HR151, HB⟩ := hrel
                          cases gk with
                          | zero => exact absurd HA.out (by simp [arrearslaw6_FrameTorn.l0])
                          | succ k4 =>
                            have H := HA.out
                            clear HA
                            simp only [arrearslaw6_FrameTorn.l0] at H
                            by_cases c28 : x11_4 < (l0.length : Int)
                            · rw [if_pos c28] at H
                              have c28b0 : decide (x11_4 < (l0.length : Int)) = true := decide_eq_true c28
                              clear c28
                              (first | rw [c28b0] | (simp only [i64_w, i32_w]; rw [c28b0]) | skip)
                              by_cases c29 : 0 ≤ x11_4
                              · rw [if_pos c29] at H
                                have c29b0 : decide (0 ≤ x11_4) = true := decide_eq_true c29
                                clear c29
                                by_cases c30 : (wrap64 ((wrap64 (x10_4 + ((rd_L1 l0 x11_4).length : Int))) + 8)) ≤ x1_17
                                · rw [if_pos c30] at H
                                  have c30b0 : decide ((wrap64 ((wrap64 (x10_4 + ((rd_L1 l0 x11_4).length : Int))) + 8)) ≤ x1_17) = true := decide_eq_true c30
                                  clear c30
                                  have H' := Aside0.mk H
                                  clear H
                                  have p157 : 0 ≤ (x11_4 : Int) := of_decide_eq_true (by first | (with_reducible assumption) | assumption)
                                  have q157 : x11_4 < (l0.length : Int) := of_decide_eq_true (by first | (with_reducible assumption) | assumption)
                                  obtain ⟨ad157, A157_0, c157_0, e157, hx157_0, hl157_0, hi157_0⟩ := at_L1 HR0.out x11_4 p157 q157
                                  cases e157
                                  replace hx157_0 := (HB.out.cell (World.block_lt_of_cell? w _ hx157_0)).trans hx157_0
                                  have HR157_0 := Aside0.mk hi157_0
                                  have HC157_0 := Aside0.mk hl157_0
                                  clear hi157_0 hl157_0
                                  replace p157 := eq_true p157
                                  replace q157 := eq_true q157
                                  have p158 : 0 ≤ (x11_4 : Int) := of_decide_eq_true (by first | (with_reducible assumption) | assumption)
                                  have q158 : x11_4 < (l0.length : Int) := of_decide_eq_true (by first | (with_reducible assumption) | assumption)
                                  obtain ⟨ad158, A158_0, c158_0, e158, hx158_0, hl158_0, hi158_0⟩ := at_L1 HR0.out x11_4 p158 q158
                                  obtain rfl : ad157 = ad158 := (by injection e158)
                                  replace hx158_0 := (HB.out.cell (World.block_lt_of_cell? w _ hx158_0)).trans hx158_0
                                  have HR158_0 := Aside0.mk hi158_0
                                  have HC158_0 := Aside0.mk hl158_0
                                  clear hi158_0 hl158_0
                                  replace p158 := eq_true p158
                                  replace q158 := eq_true q158
                                  have ea_ := Option.some.inj (hx157_0.symm.trans hx158_0)
                                  injection ea_ with ea_ en_ ec_
                                  subst ea_
                                  subst ec_
                                  clear en_
                                  go_wp2
                                  go_roundg k4
                                  case measure => have := HJ6.out; have := HJ14.out; have := HJ17.out; have := HK4.out; omega
                                  case rel => exact ⟨(wrap64 ((wrap64 (x10_4 + ((rd_L1 l0 x11_4).length : Int))) + 8)), (wrap64 (x11_4 + 1)), (by first | rfl | (simp; done) | (simp [*]; done)), (by first | rfl | (simp; done) | (simp [*]; done)), H', ⟨by have := HJ6.out; have := HJ14.out; have := HJ17.out; have := HK4.out; omega⟩, ⟨by (with_reducible repeat (first | apply Kd.S_alloc | apply Kd.S_drewN | apply Kd.S_drew)); exact HO_7.out⟩, ⟨by repeat (first | (with_reducible exact HR151.out) | (with_reducible refine Kd.C_alloc ?_ _) | (with_reducible refine Kd.C_drewN ?_ _) | (with_reducible refine Kd.C_drew ?_) | exact HR151.out)⟩, ⟨by repeat (first | (with_reducible first | exact HB.out | apply below_alloc | apply pw_below_drewN | apply below_drew1) | exact HB.out)⟩⟩
                                · rw [if_neg c30] at H
                                  have c30b0 : decide ((wrap64 ((wrap64 (x10_4 + ((rd_L1 l0 x11_4).length : Int))) + 8)) ≤ x1_17) = false := decide_eq_false c30
                                  clear c30
                                  have H' := Aside0.mk H
                                  clear H
                                  have p157 : 0 ≤ (x11_4 : Int) := of_decide_eq_true (by first | (with_reducible assumption) | assumption)
                                  have q157 : x11_4 < (l0.length : Int) := of_decide_eq_true (by first | (with_reducible assumption) | assumption)
                                  obtain ⟨ad157, A157_0, c157_0, e157, hx157_0, hl157_0, hi157_0⟩ := at_L1 HR0.out x11_4 p157 q157
                                  cases e157
                                  replace hx157_0 := (HB.out.cell (World.block_lt_of_cell? w _ hx157_0)).trans hx157_0
                                  have HR157_0 := Aside0.mk hi157_0
                                  have HC157_0 := Aside0.mk hl157_0
                                  clear hi157_0 hl157_0
                                  replace p157 := eq_true p157
                                  replace q157 := eq_true q157
                                  go_wp2
                                  go_meet
                                  case rel => exact ⟨_, (x10_4), (x11_4), (by first | rfl | (simp; done) | (simp [*]; done)), (by first | rfl | (simp; done) | (simp [*]; done)), H', ⟨by have := HJ6.out; have := HJ14.out; have := HJ17.out; have := HK4.out; first | omega | exact Nat.le_refl _⟩, ⟨by (with_reducible repeat (first | apply Kd.S_alloc | apply Kd.S_drewN | apply Kd.S_drew)); exact HO_7.out⟩, ⟨by repeat (first | (with_reducible exact HR151.out) | (with_reducible refine Kd.C_alloc ?_ _) | (with_reducible refine Kd.C_drewN ?_ _) | (with_reducible refine Kd.C_drew ?_) | exact HR151.out)⟩, ⟨by repeat (first | (with_reducible first | exact HB.out | apply below_alloc | apply pw_below_drewN | apply below_drew1) | exact HB.out)⟩⟩
                              · rw [if_neg c29] at H
                                exact absurd H (by simp)
                            · rw [if_neg c28] at H
                              have c28b0 : decide (x11_4 < (l0.length : Int)) = false := decide_eq_false c28
                              clear c28
                              (first | rw [c28b0] | (simp only [i64_w, i32_w]; rw [c28b0]) | skip)
                              have H' := Aside0.mk H
                              clear H
                              go_wp2
                              go_meet
                              case rel => exact ⟨_, (x10_4), (x11_4), (by first | rfl | (simp; done) | (simp [*]; done)), (by first | rfl | (simp; done) | (simp [*]; done)), H', ⟨by have := HJ6.out; have := HJ14.out; have := HJ17.out; have := HK4.out; first | omega | exact Nat.le_refl _⟩, ⟨by (with_reducible repeat (first | apply Kd.S_alloc | apply Kd.S_drewN | apply Kd.S_drew)); exact HO_7.out⟩, ⟨by repeat (first | (with_reducible exact HR151.out) | (with_reducible refine Kd.C_alloc ?_ _) | (with_reducible refine Kd.C_drewN ?_ _) | (with_reducible refine Kd.C_drew ?_) | exact HR151.out)⟩, ⟨by repeat (first | (with_reducible first | exact HB.out | apply below_alloc | apply pw_below_drewN | apply below_drew1) | exact HB.out)⟩⟩
                      case rest =>
                        clear HC24
                        try clear c1
                        try clear p1
                        try clear q1
                        try clear hx1
                        try clear c2
                        try clear p2
                        try clear q2
                        try clear c3
                        try clear c4
                        try clear p6
                        try clear c10
                        try clear c11
                        try clear c14
                        try clear c15
                        try clear p15
                        try clear q15
                        try clear hx15
                        try clear c16
                        try clear c16b0
                        try clear c19
                        try clear c21
                        try clear c21b0
                        try clear c21b1
                        try clear c22
                        try clear c22b0
                        try clear c22b1
                        try clear c25
                        try clear q25
                        try clear c28
                        try clear c28b0
                        try clear c29
                        try clear c29b0
                        try clear c30
                        try clear c30b0
                        try clear hx157_0
                        try clear hx158_0
                        try clear p157
                        try clear p158
                        try clear p2
                        try clear q157
                        try clear q158
                        try clear q2
                        try clear q25
                        obtain ⟨kq, x10_23, x11_23, rfl, rfl, HA, HJ23, HO_7, HR151, HB⟩ := hcut
                        cases kq with
                        | zero => exact absurd HA.out (by simp [arrearslaw6_FrameTorn.j4])
                        | succ kj23 =>
                          have H := HA.out
                          clear HA
                          simp only [arrearslaw6_FrameTorn.j4] at H
                          have HC31 := Aside0.mk H
                          clear H
                          go_upto_region 14 with (fail)
                          go_cut [84] (fun v84 wc => ∃ (kq : Nat) (x84_30 : Bool), v84 = .bool x84_30 ∧ Aside0 (arrearslaw6_FrameTorn.j5 kq x1_17 t154 x10_23 x84_30 = some r) ∧ Aside0 (kq ≤ kj23) ∧ Aside0 (Kd.C (Kd.int .u8) wc Ao26 y148.length y148) ∧ Aside0 (Below w.heap.size w wc))
                          case first =>
                            have H := HC31.out
                            clear HC31
                            by_cases c32 : 0 ≤ x11_23
                            · rw [if_pos c32] at H
                              have c32b0 := eq_true c32
                              have c32b1 : decide (0 ≤ x11_23) = true := decide_eq_true c32
                              clear c32
                              by_cases c33 : x11_23 ≤ (l0.length : Int)
                              · rw [if_pos c33] at H
                                have c33b0 := eq_true c33
                                have c33b1 : decide (x11_23 ≤ (l0.length : Int)) = true := decide_eq_true c33
                                clear c33
                                obtain ⟨y159, hy159⟩ : ∃ y_ : List (List Int), y_ = (l0.take (x11_23 : Int).toNat) := ⟨_, rfl⟩
                                replace H : ((arrearslaw6_alike.f kj23 t152 y159).bind fun t163 => (if t163 = true then (arrearslaw6_FrameTorn.j5 kj23 x1_17 t154 x10_23 (t153 != x10_23)) else (arrearslaw6_FrameTorn.j5 kj23 x1_17 t154 x10_23 true))) = some r := by first | (rw [hy159]; with_reducible exact H) | (have H2_ := (Option.bind_some _ _).symm.trans H; rw [hy159]; with_reducible exact H2_) | (have H2_ := (Option.bind_some _ _).symm.trans H; with_reducible exact H2_) | with_reducible exact H | (rw [hy159]; exact H) | exact H
                                have Ny159 := Aside0.mk hy159
                                clear hy159
                                replace H := Option.bind_eq_some_iff.mp H
                                obtain ⟨t163, A340, H⟩ := H
                                replace H : (if t163 = true then (arrearslaw6_FrameTorn.j5 kj23 x1_17 t154 x10_23 (t153 != x10_23)) else (arrearslaw6_FrameTorn.j5 kj23 x1_17 t154 x10_23 true)) = some r := H
                                have A34 := Aside0.mk A340
                                clear A340
                                by_cases c35 : t163 = true
                                · subst c35
                                  have H1 : (arrearslaw6_FrameTorn.j5 kj23 x1_17 t154 x10_23 (t153 != x10_23)) = some r := by rw [if_pos rfl] at H; exact H
                                  clear H
                                  have H := H1
                                  clear H1
                                  have H' := Aside0.mk H
                                  clear H
                                  have q36 : (x11_23 : Int) ≤ ((l0.length : Int) : Int) := of_decide_eq_true (by first | (with_reducible assumption) | assumption)
                                  obtain ⟨i036, hi036, _, hsz36, _⟩ := info_parts info23
                                  have hroom36 : l0.length ≤ c0 := HC0.out
                                  have hC36 : Kd.C (Kd.slice 5 (Kd.int .u8)) _ A0 l0.length l0 := HR0.out
                                  (try clear hcut25); have hcut36 := cut_to (P := Tryd.prog) 30 23 .i64 Tryd.underlying30 hi036 A0 l0.length c0 x11_23 (of_decide_eq_true (by first | (with_reducible assumption) | assumption)) q36 hroom36
                                  have hr36 := Kd.C_take (m := (x11_23 : Int).toNat) hC36 (by omega)
                                  have hy36 : y159.length = (x11_23 : Int).toNat := (by rw [Ny159.out, List.length_take]; omega)
                                  rw [← Ny159.out] at hr36
                                  rw [← hy36] at hcut36
                                  have HR162 := Aside0.mk hr36
                                  have HC162 := Aside0.mk (show y159.length ≤ c0 from by omega)
                                  clear hr36 hC36 hroom36 hi036 hsz36
                                  have KY36 := Aside0.mk hy36
                                  clear hy36
                                  replace q36 := eq_true q36
                                  obtain ⟨Ao37, co37, eo37⟩ := Kd.S_slice HO_7.out
                                  subst eo37
                                  go_wp2_with (first | ((with_reducible refine gate_callee (f := 24) rfl ?_); refine goesL_ (some 78) rfl rfl Tryd.func24 (by kernel_rfl) rfl #[.slice Ao37 t152.length co37, .slice A0 y159.length c0] rfl (by (try simp only [List.map_toArray, List.map_cons, List.map_nil]); first | done | rfl | (simp only [List.length_drop, List.length_take]; rfl)) ?_; (with_reducible refine (arrearslaw6_alike.calls kj23 _ _ t152 _ _ y159 true _ ?side1 ?side2 ?side3 ?side4 A34.out).mono ?_); (case side1 => repeat (first | exact (Kd.S_reads' HO_7.out).2.2 | (with_reducible refine Kd.C_alloc ?_ _) | (with_reducible refine Kd.C_drewN ?_ _) | (with_reducible refine Kd.C_drew ?_))); (case side2 => exact (Kd.S_reads' HO_7.out).2.1); (case side3 => repeat (first | exact (Kd.C_below HR162.out HB.out) | (with_reducible refine Kd.C_alloc ?_ _) | (with_reducible refine Kd.C_drewN ?_ _) | (with_reducible refine Kd.C_drew ?_))); (case side4 => exact HC162.out); rintro e w' ⟨rfl, ⟨nd, rfl⟩⟩; refine ⟨_, rfl, ?_⟩))
                                  go_meet
                                  case rel => exact ⟨_, ((t153 != x10_23)), (by first | rfl | (simp; done) | (simp [*]; done)), H', ⟨by have := HJ6.out; have := HJ14.out; have := HJ17.out; have := HJ23.out; first | omega | exact Nat.le_refl _⟩, ⟨by repeat (first | (with_reducible exact HR151.out) | (with_reducible refine Kd.C_alloc ?_ _) | (with_reducible refine Kd.C_drewN ?_ _) | (with_reducible refine Kd.C_drew ?_) | exact HR151.out)⟩, ⟨by repeat (first | (with_reducible first | exact HB.out | apply below_alloc | apply pw_below_drewN | apply below_drew1) | exact HB.out)⟩⟩
                                · replace c35 := Bool.eq_false_iff.mpr c35
                                  subst c35
                                  have H1 : (arrearslaw6_FrameTorn.j5 kj23 x1_17 t154 x10_23 true) = some r := by rw [if_neg (show ¬ (false = true) by decide)] at H; exact H
                                  clear H
                                  have H := H1
                                  clear H1
                                  have H' := Aside0.mk H
                                  clear H
                                  have q38 : (x11_23 : Int) ≤ ((l0.length : Int) : Int) := of_decide_eq_true (by first | (with_reducible assumption) | assumption)
                                  obtain ⟨i038, hi038, _, hsz38, _⟩ := info_parts info23
                                  have hroom38 : l0.length ≤ c0 := HC0.out
                                  have hC38 : Kd.C (Kd.slice 5 (Kd.int .u8)) _ A0 l0.length l0 := HR0.out
                                  (try clear hcut25); (try clear hcut36); have hcut38 := cut_to (P := Tryd.prog) 30 23 .i64 Tryd.underlying30 hi038 A0 l0.length c0 x11_23 (of_decide_eq_true (by first | (with_reducible assumption) | assumption)) q38 hroom38
                                  have hr38 := Kd.C_take (m := (x11_23 : Int).toNat) hC38 (by omega)
                                  have hy38 : y159.length = (x11_23 : Int).toNat := (by rw [Ny159.out, List.length_take]; omega)
                                  rw [← Ny159.out] at hr38
                                  rw [← hy38] at hcut38
                                  have HR162 := Aside0.mk hr38
                                  have HC162 := Aside0.mk (show y159.length ≤ c0 from by omega)
                                  clear hr38 hC38 hroom38 hi038 hsz38
                                  have KY38 := Aside0.mk hy38
                                  clear hy38
                                  replace q38 := eq_true q38
                                  obtain ⟨Ao39, co39, eo39⟩ := Kd.S_slice HO_7.out
                                  subst eo39
                                  go_wp2_with (first | ((with_reducible refine gate_callee (f := 24) rfl ?_); refine goesL_ (some 78) rfl rfl Tryd.func24 (by kernel_rfl) rfl #[.slice Ao39 t152.length co39, .slice A0 y159.length c0] rfl (by (try simp only [List.map_toArray, List.map_cons, List.map_nil]); first | done | rfl | (simp only [List.length_drop, List.length_take]; rfl)) ?_; (with_reducible refine (arrearslaw6_alike.calls kj23 _ _ t152 _ _ y159 false _ ?side1 ?side2 ?side3 ?side4 A34.out).mono ?_); (case side1 => repeat (first | exact (Kd.S_reads' HO_7.out).2.2 | (with_reducible refine Kd.C_alloc ?_ _) | (with_reducible refine Kd.C_drewN ?_ _) | (with_reducible refine Kd.C_drew ?_))); (case side2 => exact (Kd.S_reads' HO_7.out).2.1); (case side3 => repeat (first | exact (Kd.C_below HR162.out HB.out) | (with_reducible refine Kd.C_alloc ?_ _) | (with_reducible refine Kd.C_drewN ?_ _) | (with_reducible refine Kd.C_drew ?_))); (case side4 => exact HC162.out); rintro e w' ⟨rfl, ⟨nd, rfl⟩⟩; refine ⟨_, rfl, ?_⟩))
                                  go_meet
                                  case rel => exact ⟨_, (true), (by first | rfl | (simp; done) | (simp [*]; done)), H', ⟨by have := HJ6.out; have := HJ14.out; have := HJ17.out; have := HJ23.out; first | omega | exact Nat.le_refl _⟩, ⟨by repeat (first | (with_reducible exact HR151.out) | (with_reducible refine Kd.C_alloc ?_ _) | (with_reducible refine Kd.C_drewN ?_ _) | (with_reducible refine Kd.C_drew ?_) | exact HR151.out)⟩, ⟨by repeat (first | (with_reducible first | exact HB.out | apply below_alloc | apply pw_below_drewN | apply below_drew1) | exact HB.out)⟩⟩
                              · rw [if_neg c33] at H
                                exact absurd H (by simp)
                            · rw [if_neg c32] at H
                              exact absurd H (by simp)
                          case rest =>
                            clear HC31
                            try clear c1
                            try clear p1
                            try clear q1
                            try clear hx1
                            try clear c2
                            try clear p2
                            try clear q2
                            try clear c3
                            try clear q3
                            try clear c4
                            try clear p6
                            try clear c10
                            try clear c11
                            try clear c14
                            try clear c15
                            try clear p15
                            try clear q15
                            try clear hx15
                            try clear c16
                            try clear c16b0
                            try clear c19
                            try clear c21
                            try clear c21b0
                            try clear c21b1
                            try clear c22
                            try clear c22b0
                            try clear c22b1
                            try clear c24
                            try clear c25
                            try clear q25
                            try clear c28
                            try clear c28b0
                            try clear c29
                            try clear c29b0
                            try clear c30
                            try clear c30b0
                            try clear c32
                            try clear c32b0
                            try clear c32b1
                            try clear c33
                            try clear c33b0
                            try clear c33b1
                            try clear c35
                            try clear q36
                            try clear c37
                            try clear q38
                            try clear hx157_0
                            try clear hx158_0
                            try clear p1
                            try clear p15
                            try clear p157
                            try clear p158
                            try clear p2
                            try clear p6
                            try clear q1
                            try clear q15
                            try clear q157
                            try clear q158
                            try clear q2
                            try clear q25
                            try clear q36
                            try clear q38
                            obtain ⟨kq, x84_30, rfl, HA, HJ30, HR151, HB⟩ := hcut
                            cases kq with
                            | zero => exact absurd HA.out (by simp [arrearslaw6_FrameTorn.j5])
                            | succ kj30 =>
                              have H := HA.out
                              clear HA
                              simp only [arrearslaw6_FrameTorn.j5] at H
                              by_cases c40 : x84_30 = true
                              · subst c40
                                have H1 : (none) = some r := by rw [if_pos rfl] at H; exact H
                                clear H
                                have H := H1
                                clear H1
                                exact absurd H (by simp)
                              · replace c40 := Bool.eq_false_iff.mpr c40
                                subst c40
                                have H1 : (if x10_23 = x1_17 then (some (t154 == 0)) else (some (t154 == 1))) = some r := by rw [if_neg (show ¬ (false = true) by decide)] at H; exact H
                                clear H
                                have H := H1
                                clear H1
                                by_cases c41 : x10_23 = x1_17
                                · rw [if_pos c41] at H
                                  have c41b0 : (x10_23 == x1_17) = true := beq_iff_eq.mpr c41
                                  have c41b1 : (x10_23 != x1_17) = false := bne_eq_false_iff_eq.mpr c41
                                  clear c41
                                  obtain rfl := Option.some.inj H
                                  go_wp2
                                  go_ret
                                  exact ⟨by first | rfl | (simp [errW_none, errW_some] <;> rfl) | (simp [*, errW_none, errW_some] <;> rfl), by repeat (first | (with_reducible first | exact HB.out | apply below_alloc | apply pw_below_drewN | apply below_drew1) | exact HB.out)⟩
                                · rw [if_neg c41] at H
                                  have c41b0 : (x10_23 == x1_17) = false := beq_eq_false_iff_ne.mpr c41
                                  have c41b1 : (x10_23 != x1_17) = true := bne_iff_ne.mpr c41
                                  obtain rfl := Option.some.inj H
                                  go_wp2
                                  go_ret
                                  exact ⟨by first | rfl | (simp [errW_none, errW_some] <;> rfl) | (simp [*, errW_none, errW_some] <;> rfl), by repeat (first | (with_reducible first | exact HB.out | apply below_alloc | apply pw_below_drewN | apply below_drew1) | exact HB.out)⟩
                    · rw [if_neg c22] at H
                      exact absurd H (by simp)
                  · rw [if_neg c21] at H
                    exact absurd H (by simp)
  · replace c4 := Bool.eq_false_iff.mpr c4
    subst c4
    have H1 : (some true) = some r := by rw [if_neg (show ¬ (false = true) by decide)] at H; exact H
    clear H
    have H := H1
    clear H1
    obtain rfl := Option.some.inj H
    go_enter Tryd.func10, Tryd.ntmps10
    go_wp2_with (first | ((with_reducible refine gate_callee (f := 37) rfl ?_); refine goesL_ (some 13) rfl rfl Tryd.func37 (by kernel_rfl) rfl #[.slice A0 l0.length c0] rfl (by (try simp only [List.map_toArray, List.map_cons, List.map_nil]); first | done | rfl | (simp only [List.length_drop, List.length_take]; rfl)) ?_; (with_reducible refine (arrearslaw6_fits.calls k _ _ l0 false _ ?side1 ?side2 A3.out).mono ?_); (case side1 => repeat (first | exact HR0.out | (with_reducible refine Kd.C_alloc ?_ _) | (with_reducible refine Kd.C_drewN ?_ _) | (with_reducible refine Kd.C_drew ?_))); (case side2 => exact HC0.out); rintro e w' ⟨rfl, ⟨nd, rfl⟩⟩; refine ⟨_, rfl, ?_⟩))
    go_ret
    exact ⟨by first | rfl | (simp [errW_none, errW_some] <;> rfl) | (simp [*, errW_none, errW_some] <;> rfl), by repeat (first | (with_reducible first | exact HB.out | apply below_alloc | apply pw_below_drewN | apply below_drew1) | exact HB.out)⟩

end Go.Proofs.YtgfjmpnlkjocaaaDoor.T
