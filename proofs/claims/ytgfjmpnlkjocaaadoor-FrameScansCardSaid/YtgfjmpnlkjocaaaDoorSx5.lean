-- Written by stubprint.py (wip/) of this work, over the kit's print.py; parts by hand.
import Derived.Test.YtgfjmpnlkjocaaaDoorSx0
import Derived.Test.YtgfjmpnlkjocaaaDoorSx1
import Derived.Test.YtgfjmpnlkjocaaaDoorSx3
import Derived.Test.YtgfjmpnlkjocaaaDoorSx4
namespace Go.Proofs.YtgfjmpnlkjocaaaDoor.S
open Go.RowKit Go.Proofs.YtgfjmpnlkjocaaaDoorW.PrintWords Go.Proofs.YtgfjmpnlkjocaaaDoorW.PrintLast Go.Proofs.YtgfjmpnlkjocaaaDoorW.PrintMore
attribute [local go_sem] max2_int min2_int max_two min_two max_three min_three max_four min_four   -- for this text's walks alone
set_option linter.unusedVariables false
set_option linter.unusedSimpArgs false

/-! ### arrearslaw6_FrameScans: function 6 -/
def arrearslaw6_FrameScans.j0 : Nat → List Int → List Int → List (List Int) → List (List Int) → Bool → Option (Bool)
  | 0, _, _, _, _, _ => none
  | k + 1, x0, x3, x4, x7, x53 => if x53 = true then (none) else ((arrearslaw6_turned.f k x3 (x0.length : Int)).bind fun bt182 => (if 0 ≤ (x0.length : Int) then (if (x0.length : Int) ≤ (x3.length : Int) then ((frame_Scan.f k (bt182.2.take ((x0.length : Int) : Int).toNat)).bind fun bt190 => ((arrearsref6_Scan.f k bt182.1).bind fun bt195 => ((arrearslaw6_alike.f k bt190.1 bt195.1).bind fun t200 => (if t200 = true then (if bt190.2.1 = bt195.2.1 then (if bt190.2.2 = bt195.2.2 then ((arrearslaw6_alike.f k x4 x7).bind fun t201 => (some t201)) else (none)) else (none)) else (none))))) else (none)) else (none)))
def arrearslaw6_FrameScans.f (k : Nat) (l0 : List Int) : Option (Bool) := if (l0.length : Int) > 6000000 then (some true) else ((arrearslaw6_roomy.f k l0).bind fun t160 => (if 0 ≤ (l0.length : Int) then (if (l0.length : Int) ≤ (t160.length : Int) then ((frame_Scan.f k (t160.take ((l0.length : Int) : Int).toNat)).bind fun bt167 => ((arrearsref6_Scan.f k l0).bind fun bt172 => ((arrearslaw6_alike.f k bt167.1 bt172.1).bind fun t177 => (if t177 = true then (if bt167.2.1 = bt172.2.1 then (if bt167.2.2 = bt172.2.2 then ((arrearslaw6_roomy.f k l0).bind fun t178 => ((arrearslaw6_same.f k t160 t178).bind fun t181 => (arrearslaw6_FrameScans.j0 k l0 t160 bt167.1 bt172.1 (!t181)))) else (arrearslaw6_FrameScans.j0 k l0 t160 bt167.1 bt172.1 true)) else (arrearslaw6_FrameScans.j0 k l0 t160 bt167.1 bt172.1 true)) else (arrearslaw6_FrameScans.j0 k l0 t160 bt167.1 bt172.1 true))))) else (none)) else (none)))
theorem arrearslaw6_FrameScans.mono_l : ∀ k, (∀ y0 y1 y2 y3 y4, LeO (arrearslaw6_FrameScans.j0 k y0 y1 y2 y3 y4) (arrearslaw6_FrameScans.j0 (k + 1) y0 y1 y2 y3 y4))
  | 0 => fun _ _ _ _ _ r h => by simp [arrearslaw6_FrameScans.j0] at h
  | k + 1 => by
    have ih0 := arrearslaw6_FrameScans.mono_l k
    · intro y0 y1 y2 y3 y4
      unfold arrearslaw6_FrameScans.j0
      repeat' first
      | (with_reducible exact ih0 _ _ _ _ _)
      | (with_reducible exact arrearslaw6_alike.mono _ _ _)
      | (with_reducible exact arrearslaw6_roomy.mono _ _)
      | (with_reducible exact arrearslaw6_same.mono _ _ _)
      | (with_reducible exact arrearslaw6_turned.mono _ _ _)
      | (with_reducible exact arrearsref6_Scan.mono _ _)
      | (with_reducible exact frame_Scan.mono _ _)
      | (with_reducible exact LeO.refl _)
      | (with_reducible exact LeO.none _)
      | (with_reducible refine LeO.ite ?_ ?_)
      | (with_reducible refine LeO.bind ?_ (fun _ => ?_))
      | exact ih0 _ _ _ _ _
      | exact arrearslaw6_alike.mono _ _ _
      | exact arrearslaw6_roomy.mono _ _
      | exact arrearslaw6_same.mono _ _ _
      | exact arrearslaw6_turned.mono _ _ _
      | exact arrearsref6_Scan.mono _ _
      | exact frame_Scan.mono _ _
      | exact LeO.none _
      | refine LeO.ite ?_ ?_
      | refine LeO.bind ?_ (fun _ => ?_)
theorem arrearslaw6_FrameScans.mono : ∀ a0 k, LeO (arrearslaw6_FrameScans.f k a0) (arrearslaw6_FrameScans.f (k + 1) a0) := by
  intro a0 k
  have ih0 := arrearslaw6_FrameScans.mono_l k
  unfold arrearslaw6_FrameScans.f
  repeat' first
      | (with_reducible exact ih0 _ _ _ _ _)
      | (with_reducible exact arrearslaw6_alike.mono _ _ _)
      | (with_reducible exact arrearslaw6_roomy.mono _ _)
      | (with_reducible exact arrearslaw6_same.mono _ _ _)
      | (with_reducible exact arrearslaw6_turned.mono _ _ _)
      | (with_reducible exact arrearsref6_Scan.mono _ _)
      | (with_reducible exact frame_Scan.mono _ _)
      | (with_reducible exact LeO.refl _)
      | (with_reducible exact LeO.none _)
      | (with_reducible refine LeO.ite ?_ ?_)
      | (with_reducible refine LeO.bind ?_ (fun _ => ?_))
      | exact ih0 _ _ _ _ _
      | exact arrearslaw6_alike.mono _ _ _
      | exact arrearslaw6_roomy.mono _ _
      | exact arrearslaw6_same.mono _ _ _
      | exact arrearslaw6_turned.mono _ _ _
      | exact arrearsref6_Scan.mono _ _
      | exact frame_Scan.mono _ _
      | exact LeO.none _
      | refine LeO.ite ?_ ?_
      | refine LeO.bind ?_ (fun _ => ?_)
set_option maxHeartbeats 8000000 in
set_option maxRecDepth 100000 in
theorem arrearslaw6_FrameScans.calls (k : Nat) (A0 : Option Addr) (c0 : Nat) (l0 : List Int) (r : Bool) (w : World) (hr0 : Kd.C (Kd.int .u8) w A0 l0.length l0) (hc0 : l0.length ≤ c0) (hL : Laid w) (h : arrearslaw6_FrameScans.f k l0 = some r) :
    Calls Tryd.prog 6 #[.slice A0 l0.length c0] w fun e w' => e = .returned (.bool r) ∧ Below w.heap.size w w' := by
  have HL0_ := Aside0.mk hL
  clear hL
  have HR0 := Aside0.mk hr0
  have HC0 := Aside0.mk hc0
  clear hr0 hc0
  have HB := Aside0.mk (Below.refl w.heap.size w)
  have H : (if (l0.length : Int) > 6000000 then (some true) else ((arrearslaw6_roomy.f k l0).bind fun t160 => (if 0 ≤ (l0.length : Int) then (if (l0.length : Int) ≤ (t160.length : Int) then ((frame_Scan.f k (t160.take ((l0.length : Int) : Int).toNat)).bind fun bt167 => ((arrearsref6_Scan.f k l0).bind fun bt172 => ((arrearslaw6_alike.f k bt167.1 bt172.1).bind fun t177 => (if t177 = true then (if bt167.2.1 = bt172.2.1 then (if bt167.2.2 = bt172.2.2 then ((arrearslaw6_roomy.f k l0).bind fun t178 => ((arrearslaw6_same.f k t160 t178).bind fun t181 => (arrearslaw6_FrameScans.j0 k l0 t160 bt167.1 bt172.1 (!t181)))) else (arrearslaw6_FrameScans.j0 k l0 t160 bt167.1 bt172.1 true)) else (arrearslaw6_FrameScans.j0 k l0 t160 bt167.1 bt172.1 true)) else (arrearslaw6_FrameScans.j0 k l0 t160 bt167.1 bt172.1 true))))) else (none)) else (none)))) = some r := h
  clear h
  by_cases c2 : (l0.length : Int) > 6000000
  · rw [if_pos c2] at H
    have c2b0 : decide (6000000 < (l0.length : Int)) = true := decide_eq_true c2
    have c2b1 : decide (6000000 < l0.length) = true := decide_eq_true (by omega)
    clear c2
    obtain rfl := Option.some.inj H
    go_enter Tryd.func6, Tryd.ntmps6
    go_wp2
    go_ret
    exact ⟨by first | rfl | (simp [errW_none, errW_some] <;> rfl) | (simp [*, errW_none, errW_some] <;> rfl), by repeat (first | (with_reducible first | exact HB.out | apply below_alloc | apply pw_below_drewN | apply below_drew1) | exact HB.out)⟩
  · rw [if_neg c2] at H
    have c2b0 : decide (6000000 < (l0.length : Int)) = false := decide_eq_false c2
    have c2b1 : decide (6000000 < l0.length) = false := decide_eq_false (by omega)
    clear c2
    replace H := Option.bind_eq_some_iff.mp H
    obtain ⟨t160, A30, H⟩ := H
    replace H : (if 0 ≤ (l0.length : Int) then (if (l0.length : Int) ≤ (t160.length : Int) then ((frame_Scan.f k (t160.take ((l0.length : Int) : Int).toNat)).bind fun bt167 => ((arrearsref6_Scan.f k l0).bind fun bt172 => ((arrearslaw6_alike.f k bt167.1 bt172.1).bind fun t177 => (if t177 = true then (if bt167.2.1 = bt172.2.1 then (if bt167.2.2 = bt172.2.2 then ((arrearslaw6_roomy.f k l0).bind fun t178 => ((arrearslaw6_same.f k t160 t178).bind fun t181 => (arrearslaw6_FrameScans.j0 k l0 t160 bt167.1 bt172.1 (!t181)))) else (arrearslaw6_FrameScans.j0 k l0 t160 bt167.1 bt172.1 true)) else (arrearslaw6_FrameScans.j0 k l0 t160 bt167.1 bt172.1 true)) else (arrearslaw6_FrameScans.j0 k l0 t160 bt167.1 bt172.1 true))))) else (none)) else (none)) = some r := H
    have A3 := Aside0.mk A30
    clear A30
    by_cases c4 : 0 ≤ (l0.length : Int)
    · rw [if_pos c4] at H
      have c4b0 := eq_true c4
      have c4b1 : decide (0 ≤ (l0.length : Int)) = true := decide_eq_true c4
      clear c4
      by_cases c5 : (l0.length : Int) ≤ (t160.length : Int)
      · rw [if_pos c5] at H
        have c5b0 := eq_true c5
        have c5b1 : decide ((l0.length : Int) ≤ (t160.length : Int)) = true := decide_eq_true c5
        clear c5
        obtain ⟨y163, hy163⟩ : ∃ y_ : List Int, y_ = (t160.take ((l0.length : Int) : Int).toNat) := ⟨_, rfl⟩
        replace H : ((frame_Scan.f k y163).bind fun bt167 => ((arrearsref6_Scan.f k l0).bind fun bt172 => ((arrearslaw6_alike.f k bt167.1 bt172.1).bind fun t177 => (if t177 = true then (if bt167.2.1 = bt172.2.1 then (if bt167.2.2 = bt172.2.2 then ((arrearslaw6_roomy.f k l0).bind fun t178 => ((arrearslaw6_same.f k t160 t178).bind fun t181 => (arrearslaw6_FrameScans.j0 k l0 t160 bt167.1 bt172.1 (!t181)))) else (arrearslaw6_FrameScans.j0 k l0 t160 bt167.1 bt172.1 true)) else (arrearslaw6_FrameScans.j0 k l0 t160 bt167.1 bt172.1 true)) else (arrearslaw6_FrameScans.j0 k l0 t160 bt167.1 bt172.1 true))))) = some r := by first | (rw [hy163]; with_reducible exact H) | (have H2_ := (Option.bind_some _ _).symm.trans H; rw [hy163]; with_reducible exact H2_) | (have H2_ := (Option.bind_some _ _).symm.trans H; with_reducible exact H2_) | with_reducible exact H | (rw [hy163]; exact H) | exact H
        have Ny163 := Aside0.mk hy163
        clear hy163
        replace H := Option.bind_eq_some_iff.mp H
        obtain ⟨⟨t167, t168, t169⟩, A60, H⟩ := H
        replace H : ((arrearsref6_Scan.f k l0).bind fun bt172 => ((arrearslaw6_alike.f k t167 bt172.1).bind fun t177 => (if t177 = true then (if t168 = bt172.2.1 then (if t169 = bt172.2.2 then ((arrearslaw6_roomy.f k l0).bind fun t178 => ((arrearslaw6_same.f k t160 t178).bind fun t181 => (arrearslaw6_FrameScans.j0 k l0 t160 t167 bt172.1 (!t181)))) else (arrearslaw6_FrameScans.j0 k l0 t160 t167 bt172.1 true)) else (arrearslaw6_FrameScans.j0 k l0 t160 t167 bt172.1 true)) else (arrearslaw6_FrameScans.j0 k l0 t160 t167 bt172.1 true)))) = some r := H
        have A6 := Aside0.mk A60
        clear A60
        replace H := Option.bind_eq_some_iff.mp H
        obtain ⟨⟨t172, t173, t174⟩, A70, H⟩ := H
        replace H : ((arrearslaw6_alike.f k t167 t172).bind fun t177 => (if t177 = true then (if t168 = t173 then (if t169 = t174 then ((arrearslaw6_roomy.f k l0).bind fun t178 => ((arrearslaw6_same.f k t160 t178).bind fun t181 => (arrearslaw6_FrameScans.j0 k l0 t160 t167 t172 (!t181)))) else (arrearslaw6_FrameScans.j0 k l0 t160 t167 t172 true)) else (arrearslaw6_FrameScans.j0 k l0 t160 t167 t172 true)) else (arrearslaw6_FrameScans.j0 k l0 t160 t167 t172 true))) = some r := H
        have A7 := Aside0.mk A70
        clear A70
        have HC8 := Aside0.mk H
        clear H
        go_enter Tryd.func6, Tryd.ntmps6
        go_upto_region 6 with (first | ((with_reducible refine gate_callee (f := 13) rfl ?_); refine goesL_ (some 17) rfl rfl Tryd.func13 (by kernel_rfl) rfl #[.slice A0 l0.length c0] rfl (by (try simp only [List.map_toArray, List.map_cons, List.map_nil]); first | done | rfl | (simp only [List.length_drop, List.length_take]; rfl)) ?_; (with_reducible refine (arrearslaw6_roomy.calls k _ _ l0 t160 _ ?side1 ?side2 A3.out).mono ?_); (case side1 => repeat (first | exact HR0.out | (with_reducible refine Kd.C_alloc ?_ _) | (with_reducible refine Kd.C_drewN ?_ _) | (with_reducible refine Kd.C_drew ?_))); (case side2 => exact HC0.out); rintro e w9 ⟨v161, rfl, ho0, hb⟩; refine ⟨_, rfl, ?_⟩; have n0_ := Aside0.mk (Kd.R_lower ho0 (below_size (by repeat (first | (with_reducible first | exact HB.out | apply below_alloc | apply pw_below_drewN | apply below_drew1) | exact HB.out)))); have n1_ := Aside0.mk (below_step (by repeat (first | (with_reducible first | exact HB.out | apply below_alloc | apply pw_below_drewN | apply below_drew1) | exact HB.out)) hb); clear HB; have HO162 := n0_; have HB := n1_; clear n0_ n1_; (try clear hb); (try clear hb2); (try clear hk); (try clear hi); (try clear ho0); obtain ⟨Ao11, co11, eo11⟩ := Kd.R_slice HO162.out; subst eo11; have q10 : ((l0.length : Int) : Int) ≤ ((t160.length : Int) : Int) := of_decide_eq_true (by first | (with_reducible assumption) | assumption); obtain ⟨i010, hi010, _, hsz10, _⟩ := info_parts info5; have hroom10 : t160.length ≤ co11 := (Kd.R_reads' HO162.out).2.1; have hC10 : Kd.C (Kd.int .u8) _ Ao11 t160.length t160 := (Kd.R_reads' HO162.out).2.2; have hcut10 := cut_to (P := Tryd.prog) 23 5 .i64 Tryd.underlying23 hi010 Ao11 t160.length co11 (l0.length : Int) (of_decide_eq_true (by first | (with_reducible assumption) | assumption)) q10 hroom10; have hr10 := Kd.C_take (m := ((l0.length : Int) : Int).toNat) hC10 (by omega); have hy10 : y163.length = ((l0.length : Int) : Int).toNat := (by rw [Ny163.out, List.length_take]; omega); rw [← Ny163.out] at hr10; rw [← hy10] at hcut10; have HR166 := Aside0.mk hr10; have HC166 := Aside0.mk (show y163.length ≤ co11 from by omega); clear hr10 hC10 hroom10 hi010 hsz10; have KY10 := Aside0.mk hy10; clear hy10; have KL10 := Aside0.mk (show ((l0.length : Int) : Int).toNat ≤ t160.length from by omega); replace q10 := eq_true q10) | ((with_reducible refine gate_callee (f := 28) rfl ?_); refine goesL_ (some 23) rfl rfl Tryd.func28 (by kernel_rfl) rfl #[.slice Ao11 y163.length co11] rfl (by (try simp only [List.map_toArray, List.map_cons, List.map_nil]); first | done | rfl | (simp only [List.length_drop, List.length_take]; rfl)) ?_; (with_reducible refine (frame_Scan.calls k _ _ y163 t167 t168 t169 _ ?side1 ?side2 ?sideL A6.out).mono ?_); (case sideL => exact laid_at HL0_.out (by repeat (first | (with_reducible first | exact HB.out | apply below_alloc | apply pw_below_drewN | apply below_drew1 | refine below_set ?_ (Aside0.out (by assumption))) | exact HB.out | exact Below.refl _ _ | exact Drawn0.below (Drawn0.refl _)))); (case side1 => repeat (first | exact (by repeat (first | (with_reducible exact HR166.out) | (with_reducible refine Kd.C_alloc ?_ _) | (with_reducible refine Kd.C_drewN ?_ _) | (with_reducible refine Kd.C_drew ?_) | exact HR166.out)) | (with_reducible refine Kd.C_alloc ?_ _) | (with_reducible refine Kd.C_drewN ?_ _) | (with_reducible refine Kd.C_drew ?_))); (case side2 => exact HC166.out); rintro e w12 ⟨v170, rfl, ho0, hb⟩; refine ⟨_, rfl, ?_⟩; have n0_ := Aside0.mk (Kd.R_below (by (with_reducible repeat (first | apply Kd.R_alloc | apply Kd.R_drewN | apply Kd.R_drew)); exact HO162.out) hb); have n1_ := Aside0.mk (Kd.S_lower (Kd.S_new' ho0 (Kd.R_lt (by (with_reducible repeat (first | apply Kd.R_alloc | apply Kd.R_drewN | apply Kd.R_drew)); exact HO162.out))) (below_size (by repeat (first | (with_reducible first | exact HB.out | apply below_alloc | apply pw_below_drewN | apply below_drew1) | exact HB.out)))); have n2_ := Aside0.mk (Kd.C_below (by repeat (first | (with_reducible exact HR166.out) | (with_reducible refine Kd.C_alloc ?_ _) | (with_reducible refine Kd.C_drewN ?_ _) | (with_reducible refine Kd.C_drew ?_) | exact HR166.out)) hb); have n3_ := Aside0.mk (below_step (by repeat (first | (with_reducible first | exact HB.out | apply below_alloc | apply pw_below_drewN | apply below_drew1) | exact HB.out)) hb); clear HO162; clear HR166; clear HB; have HO162 := n0_; have HO171 := n1_; have HR166 := n2_; have HB := n3_; clear n0_ n1_ n2_ n3_; (try clear hb); (try clear hb2); (try clear hk); (try clear hi); (try clear ho0)) | ((with_reducible refine gate_callee (f := 29) rfl ?_); refine goesL_ (some 29) rfl rfl Tryd.func29 (by kernel_rfl) rfl #[.slice A0 l0.length c0] rfl (by (try simp only [List.map_toArray, List.map_cons, List.map_nil]); first | done | rfl | (simp only [List.length_drop, List.length_take]; rfl)) ?_; (with_reducible refine (arrearsref6_Scan.calls k _ _ l0 t172 t173 t174 _ ?side1 ?side2 A7.out).mono ?_); (case side1 => repeat (first | exact (Kd.C_below HR0.out HB.out) | (with_reducible refine Kd.C_alloc ?_ _) | (with_reducible refine Kd.C_drewN ?_ _) | (with_reducible refine Kd.C_drew ?_))); (case side2 => exact HC0.out); rintro e w13 ⟨v175, rfl, ho0, hb⟩; refine ⟨_, rfl, ?_⟩; have n0_ := Aside0.mk (Kd.R_below (by (with_reducible repeat (first | apply Kd.R_alloc | apply Kd.R_drewN | apply Kd.R_drew)); exact HO162.out) hb); have n1_ := Aside0.mk (Kd.S_elder' (by (with_reducible repeat (first | apply Kd.S_alloc | apply Kd.S_drewN | apply Kd.S_drew)); exact HO171.out) (Kd.S_base ho0) hb); have n2_ := Aside0.mk (Kd.S_lower (Kd.S_new' (Kd.S_new' ho0 (Kd.R_lt (by (with_reducible repeat (first | apply Kd.R_alloc | apply Kd.R_drewN | apply Kd.R_drew)); exact HO162.out))) (Kd.S_lt (by (with_reducible repeat (first | apply Kd.S_alloc | apply Kd.S_drewN | apply Kd.S_drew)); exact HO171.out))) (below_size (by repeat (first | (with_reducible first | exact HB.out | apply below_alloc | apply pw_below_drewN | apply below_drew1) | exact HB.out)))); have n3_ := Aside0.mk (Kd.C_below (by repeat (first | (with_reducible exact HR166.out) | (with_reducible refine Kd.C_alloc ?_ _) | (with_reducible refine Kd.C_drewN ?_ _) | (with_reducible refine Kd.C_drew ?_) | exact HR166.out)) hb); have n4_ := Aside0.mk (below_step (by repeat (first | (with_reducible first | exact HB.out | apply below_alloc | apply pw_below_drewN | apply below_drew1) | exact HB.out)) hb); clear HO162; clear HO171; clear HR166; clear HB; have HO162 := n0_; have HO171 := n1_; have HO176 := n2_; have HR166 := n3_; have HB := n4_; clear n0_ n1_ n2_ n3_ n4_; (try clear hb); (try clear hb2); (try clear hk); (try clear hi); (try clear ho0)))
        (try simp only [Act.put, List.setIfInBounds_toArray, List.set_cons_zero, List.set_cons_succ])
        go_cut [53] (fun v53 wc => ∃ (kq : Nat) (x53_7 : Bool), v53 = .bool x53_7 ∧ Aside0 (arrearslaw6_FrameScans.j0 kq l0 t160 t167 t172 x53_7 = some r) ∧ Aside0 (kq ≤ k) ∧ Aside0 (Kd.R (Kd.int .u8) 5 wc w.heap.size (fun _ => True) (.slice Ao11 t160.length co11) t160) ∧ Aside0 (Kd.S (Kd.slice 5 (Kd.int .u8)) 23 wc w.heap.size (fun k_ => some k_ ≠ ((.slice Ao11 t160.length co11) : Value).ownBlock ∧ some k_ ≠ (v175 : Value).ownBlock) v170 t167) ∧ Aside0 (Kd.S (Kd.slice 5 (Kd.int .u8)) 23 wc w.heap.size (fun k_ => some k_ ≠ ((.slice Ao11 t160.length co11) : Value).ownBlock ∧ some k_ ≠ (v170 : Value).ownBlock) v175 t172) ∧ Aside0 (Kd.C (Kd.int .u8) wc Ao11 y163.length y163) ∧ Aside0 (Below w.heap.size w wc))
        case first =>
          have H := HC8.out
          clear HC8
          replace H := Option.bind_eq_some_iff.mp H
          obtain ⟨t177, A140, H⟩ := H
          replace H : (if t177 = true then (if t168 = t173 then (if t169 = t174 then ((arrearslaw6_roomy.f k l0).bind fun t178 => ((arrearslaw6_same.f k t160 t178).bind fun t181 => (arrearslaw6_FrameScans.j0 k l0 t160 t167 t172 (!t181)))) else (arrearslaw6_FrameScans.j0 k l0 t160 t167 t172 true)) else (arrearslaw6_FrameScans.j0 k l0 t160 t167 t172 true)) else (arrearslaw6_FrameScans.j0 k l0 t160 t167 t172 true)) = some r := H
          have A14 := Aside0.mk A140
          clear A140
          by_cases c15 : t177 = true
          · subst c15
            have H1 : (if t168 = t173 then (if t169 = t174 then ((arrearslaw6_roomy.f k l0).bind fun t178 => ((arrearslaw6_same.f k t160 t178).bind fun t181 => (arrearslaw6_FrameScans.j0 k l0 t160 t167 t172 (!t181)))) else (arrearslaw6_FrameScans.j0 k l0 t160 t167 t172 true)) else (arrearslaw6_FrameScans.j0 k l0 t160 t167 t172 true)) = some r := by rw [if_pos rfl] at H; exact H
            clear H
            have H := H1
            clear H1
            by_cases c16 : t168 = t173
            · rw [if_pos c16] at H
              have c16b0 : (t168 == t173) = true := beq_iff_eq.mpr c16
              have c16b1 : (t168 != t173) = false := bne_eq_false_iff_eq.mpr c16
              clear c16
              (first | rw [c16b0] | (simp only [i64_w, i32_w]; rw [c16b0]) | skip)
              by_cases c17 : t169 = t174
              · rw [if_pos c17] at H
                have c17b0 : (t169 == t174) = true := beq_iff_eq.mpr c17
                have c17b1 : (t169 != t174) = false := bne_eq_false_iff_eq.mpr c17
                clear c17
                replace H := Option.bind_eq_some_iff.mp H
                obtain ⟨t178, A180, H⟩ := H
                replace H : ((arrearslaw6_same.f k t160 t178).bind fun t181 => (arrearslaw6_FrameScans.j0 k l0 t160 t167 t172 (!t181))) = some r := H
                have A18 := Aside0.mk A180
                clear A180
                replace H := Option.bind_eq_some_iff.mp H
                obtain ⟨t181, A190, H⟩ := H
                replace H : (arrearslaw6_FrameScans.j0 k l0 t160 t167 t172 (!t181)) = some r := H
                have A19 := Aside0.mk A190
                clear A190
                have H' := Aside0.mk H
                clear H
                obtain ⟨Ao20, co20, eo20⟩ := Kd.S_slice HO171.out
                subst eo20
                obtain ⟨Ao21, co21, eo21⟩ := Kd.S_slice HO176.out
                subst eo21
                go_wp2_with (first | ((with_reducible refine gate_callee (f := 24) rfl ?_); refine goesL_ (some 35) rfl rfl Tryd.func24 (by kernel_rfl) rfl #[.slice Ao20 t167.length co20, .slice Ao21 t172.length co21] rfl (by (try simp only [List.map_toArray, List.map_cons, List.map_nil]); first | done | rfl | (simp only [List.length_drop, List.length_take]; rfl)) ?_; (with_reducible refine (arrearslaw6_alike.calls k _ _ t167 _ _ t172 true _ ?side1 ?side2 ?side3 ?side4 A14.out).mono ?_); (case side1 => repeat (first | exact (Kd.S_reads' HO171.out).2.2 | (with_reducible refine Kd.C_alloc ?_ _) | (with_reducible refine Kd.C_drewN ?_ _) | (with_reducible refine Kd.C_drew ?_))); (case side2 => exact (Kd.S_reads' HO171.out).2.1); (case side3 => repeat (first | exact (Kd.S_reads' HO176.out).2.2 | (with_reducible refine Kd.C_alloc ?_ _) | (with_reducible refine Kd.C_drewN ?_ _) | (with_reducible refine Kd.C_drew ?_))); (case side4 => exact (Kd.S_reads' HO176.out).2.1); rintro e w' ⟨rfl, ⟨nd, rfl⟩⟩; refine ⟨_, rfl, ?_⟩) | (go_at_call 13; (with_reducible refine (arrearslaw6_roomy.calls k _ _ l0 t178 _ ?side1 ?side2 A18.out).mono ?_); (case side1 => repeat (first | exact (Kd.C_below HR0.out (by repeat (first | (with_reducible first | exact HB.out | apply below_alloc | apply pw_below_drewN | apply below_drew1) | exact HB.out))) | (with_reducible refine Kd.C_alloc ?_ _) | (with_reducible refine Kd.C_drewN ?_ _) | (with_reducible refine Kd.C_drew ?_))); (case side2 => exact HC0.out); rintro e w22 ⟨v179, rfl, ho0, hb⟩; have n0_ := Aside0.mk (Kd.R_elder' (by (with_reducible repeat (first | apply Kd.R_alloc | apply Kd.R_drewN | apply Kd.R_drew)); exact HO162.out) (Kd.R_base ho0) hb); have n1_ := Aside0.mk (Kd.S_elder' (by (with_reducible repeat (first | apply Kd.S_alloc | apply Kd.S_drewN | apply Kd.S_drew)); exact HO171.out) (Kd.R_base ho0) hb); have n2_ := Aside0.mk (Kd.S_elder' (by (with_reducible repeat (first | apply Kd.S_alloc | apply Kd.S_drewN | apply Kd.S_drew)); exact HO176.out) (Kd.R_base ho0) hb); have n3_ := Aside0.mk (Kd.R_lower (Kd.R_new' ho0 (Kd.R_lt (by (with_reducible repeat (first | apply Kd.R_alloc | apply Kd.R_drewN | apply Kd.R_drew)); exact HO162.out))) (below_size (by repeat (first | (with_reducible first | exact HB.out | apply below_alloc | apply pw_below_drewN | apply below_drew1) | exact HB.out)))); have n4_ := Aside0.mk (Kd.C_below (by repeat (first | (with_reducible exact HR166.out) | (with_reducible refine Kd.C_alloc ?_ _) | (with_reducible refine Kd.C_drewN ?_ _) | (with_reducible refine Kd.C_drew ?_) | exact HR166.out)) hb); have n5_ := Aside0.mk (below_step (by repeat (first | (with_reducible first | exact HB.out | apply below_alloc | apply pw_below_drewN | apply below_drew1) | exact HB.out)) hb); clear HO162; clear HO171; clear HO176; clear HR166; clear HB; have HO162 := n0_; have HO171 := n1_; have HO176 := n2_; have HO180 := n3_; have HR166 := n4_; have HB := n5_; clear n0_ n1_ n2_ n3_ n4_ n5_; (try clear hb); (try clear hb2); (try clear hk); (try clear hi); (try clear ho0); obtain ⟨Ao23, co23, eo23⟩ := Kd.R_slice HO180.out; subst eo23) | (go_at_call 18; (with_reducible refine (arrearslaw6_same.calls k _ _ t160 _ _ t178 t181 _ ?side1 ?side2 ?side3 ?side4 A19.out).mono ?_); (case side1 => repeat (first | exact (Kd.R_reads' HO162.out).2.2 | (with_reducible refine Kd.C_alloc ?_ _) | (with_reducible refine Kd.C_drewN ?_ _) | (with_reducible refine Kd.C_drew ?_))); (case side2 => exact (Kd.R_reads' HO162.out).2.1); (case side3 => repeat (first | exact (Kd.R_reads' HO180.out).2.2 | (with_reducible refine Kd.C_alloc ?_ _) | (with_reducible refine Kd.C_drewN ?_ _) | (with_reducible refine Kd.C_drew ?_))); (case side4 => exact (Kd.R_reads' HO180.out).2.1); rintro e w' ⟨rfl, ⟨nd, rfl⟩⟩))
                go_meet
                case rel => exact ⟨_, (!t181), (by first | rfl | (simp; done) | (simp [*]; done)), H', ⟨by first | omega | exact Nat.le_refl _⟩, ⟨by (with_reducible repeat (first | apply Kd.R_alloc | apply Kd.R_drewN | apply Kd.R_drew)); exact Kd.R_mono HO162.out (fun _ hk => trivial)⟩, ⟨by (with_reducible repeat (first | apply Kd.S_alloc | apply Kd.S_drewN | apply Kd.S_drew)); exact Kd.S_mono HO171.out (fun _ hk => ⟨hk.1.1.2, hk.1.2⟩)⟩, ⟨by (with_reducible repeat (first | apply Kd.S_alloc | apply Kd.S_drewN | apply Kd.S_drew)); exact Kd.S_mono HO176.out (fun _ hk => ⟨hk.1.1.2, hk.1.2⟩)⟩, ⟨by repeat (first | (with_reducible exact HR166.out) | (with_reducible refine Kd.C_alloc ?_ _) | (with_reducible refine Kd.C_drewN ?_ _) | (with_reducible refine Kd.C_drew ?_) | exact HR166.out)⟩, ⟨by repeat (first | (with_reducible first | exact HB.out | apply below_alloc | apply pw_below_drewN | apply below_drew1) | exact HB.out)⟩⟩
              · rw [if_neg c17] at H
                have c17b0 : (t169 == t174) = false := beq_eq_false_iff_ne.mpr c17
                have c17b1 : (t169 != t174) = true := bne_iff_ne.mpr c17
                have H' := Aside0.mk H
                clear H
                obtain ⟨Ao24, co24, eo24⟩ := Kd.S_slice HO171.out
                subst eo24
                obtain ⟨Ao25, co25, eo25⟩ := Kd.S_slice HO176.out
                subst eo25
                go_wp2_with (first | ((with_reducible refine gate_callee (f := 24) rfl ?_); refine goesL_ (some 35) rfl rfl Tryd.func24 (by kernel_rfl) rfl #[.slice Ao24 t167.length co24, .slice Ao25 t172.length co25] rfl (by (try simp only [List.map_toArray, List.map_cons, List.map_nil]); first | done | rfl | (simp only [List.length_drop, List.length_take]; rfl)) ?_; (with_reducible refine (arrearslaw6_alike.calls k _ _ t167 _ _ t172 true _ ?side1 ?side2 ?side3 ?side4 A14.out).mono ?_); (case side1 => repeat (first | exact (Kd.S_reads' HO171.out).2.2 | (with_reducible refine Kd.C_alloc ?_ _) | (with_reducible refine Kd.C_drewN ?_ _) | (with_reducible refine Kd.C_drew ?_))); (case side2 => exact (Kd.S_reads' HO171.out).2.1); (case side3 => repeat (first | exact (Kd.S_reads' HO176.out).2.2 | (with_reducible refine Kd.C_alloc ?_ _) | (with_reducible refine Kd.C_drewN ?_ _) | (with_reducible refine Kd.C_drew ?_))); (case side4 => exact (Kd.S_reads' HO176.out).2.1); rintro e w' ⟨rfl, ⟨nd, rfl⟩⟩; refine ⟨_, rfl, ?_⟩))
                go_meet
                case rel => exact ⟨_, (true), (by first | rfl | (simp; done) | (simp [*]; done)), H', ⟨by first | omega | exact Nat.le_refl _⟩, ⟨by (with_reducible repeat (first | apply Kd.R_alloc | apply Kd.R_drewN | apply Kd.R_drew)); exact HO162.out⟩, ⟨by (with_reducible repeat (first | apply Kd.S_alloc | apply Kd.S_drewN | apply Kd.S_drew)); exact Kd.S_mono HO171.out (fun _ hk => ⟨hk.1.2, hk.2⟩)⟩, ⟨by (with_reducible repeat (first | apply Kd.S_alloc | apply Kd.S_drewN | apply Kd.S_drew)); exact Kd.S_mono HO176.out (fun _ hk => ⟨hk.1.2, hk.2⟩)⟩, ⟨by repeat (first | (with_reducible exact HR166.out) | (with_reducible refine Kd.C_alloc ?_ _) | (with_reducible refine Kd.C_drewN ?_ _) | (with_reducible refine Kd.C_drew ?_) | exact HR166.out)⟩, ⟨by repeat (first | (with_reducible first | exact HB.out | apply below_alloc | apply pw_below_drewN | apply below_drew1) | exact HB.out)⟩⟩
            · rw [if_neg c16] at H
              have c16b0 : (t168 == t173) = false := beq_eq_false_iff_ne.mpr c16
              have c16b1 : (t168 != t173) = true := bne_iff_ne.mpr c16
              (first | rw [c16b0] | (simp only [i64_w, i32_w]; rw [c16b0]) | skip)
              have H' := Aside0.mk H
              clear H
              obtain ⟨Ao26, co26, eo26⟩ := Kd.S_slice HO171.out
              subst eo26
              obtain ⟨Ao27, co27, eo27⟩ := Kd.S_slice HO176.out
              subst eo27
              go_wp2_with (first | ((with_reducible refine gate_callee (f := 24) rfl ?_); refine goesL_ (some 35) rfl rfl Tryd.func24 (by kernel_rfl) rfl #[.slice Ao26 t167.length co26, .slice Ao27 t172.length co27] rfl (by (try simp only [List.map_toArray, List.map_cons, List.map_nil]); first | done | rfl | (simp only [List.length_drop, List.length_take]; rfl)) ?_; (with_reducible refine (arrearslaw6_alike.calls k _ _ t167 _ _ t172 true _ ?side1 ?side2 ?side3 ?side4 A14.out).mono ?_); (case side1 => repeat (first | exact (Kd.S_reads' HO171.out).2.2 | (with_reducible refine Kd.C_alloc ?_ _) | (with_reducible refine Kd.C_drewN ?_ _) | (with_reducible refine Kd.C_drew ?_))); (case side2 => exact (Kd.S_reads' HO171.out).2.1); (case side3 => repeat (first | exact (Kd.S_reads' HO176.out).2.2 | (with_reducible refine Kd.C_alloc ?_ _) | (with_reducible refine Kd.C_drewN ?_ _) | (with_reducible refine Kd.C_drew ?_))); (case side4 => exact (Kd.S_reads' HO176.out).2.1); rintro e w' ⟨rfl, ⟨nd, rfl⟩⟩; refine ⟨_, rfl, ?_⟩))
              go_meet
              case rel => exact ⟨_, (true), (by first | rfl | (simp; done) | (simp [*]; done)), H', ⟨by first | omega | exact Nat.le_refl _⟩, ⟨by (with_reducible repeat (first | apply Kd.R_alloc | apply Kd.R_drewN | apply Kd.R_drew)); exact HO162.out⟩, ⟨by (with_reducible repeat (first | apply Kd.S_alloc | apply Kd.S_drewN | apply Kd.S_drew)); exact Kd.S_mono HO171.out (fun _ hk => ⟨hk.1.2, hk.2⟩)⟩, ⟨by (with_reducible repeat (first | apply Kd.S_alloc | apply Kd.S_drewN | apply Kd.S_drew)); exact Kd.S_mono HO176.out (fun _ hk => ⟨hk.1.2, hk.2⟩)⟩, ⟨by repeat (first | (with_reducible exact HR166.out) | (with_reducible refine Kd.C_alloc ?_ _) | (with_reducible refine Kd.C_drewN ?_ _) | (with_reducible refine Kd.C_drew ?_) | exact HR166.out)⟩, ⟨by repeat (first | (with_reducible first | exact HB.out | apply below_alloc | apply pw_below_drewN | apply below_drew1) | exact HB.out)⟩⟩
          · replace c15 := Bool.eq_false_iff.mpr c15
            subst c15
            have H1 : (arrearslaw6_FrameScans.j0 k l0 t160 t167 t172 true) = some r := by rw [if_neg (show ¬ (false = true) by decide)] at H; exact H
            clear H
            have H := H1
            clear H1
            have H' := Aside0.mk H
            clear H
            obtain ⟨Ao28, co28, eo28⟩ := Kd.S_slice HO171.out
            subst eo28
            obtain ⟨Ao29, co29, eo29⟩ := Kd.S_slice HO176.out
            subst eo29
            go_wp2_with (first | ((with_reducible refine gate_callee (f := 24) rfl ?_); refine goesL_ (some 35) rfl rfl Tryd.func24 (by kernel_rfl) rfl #[.slice Ao28 t167.length co28, .slice Ao29 t172.length co29] rfl (by (try simp only [List.map_toArray, List.map_cons, List.map_nil]); first | done | rfl | (simp only [List.length_drop, List.length_take]; rfl)) ?_; (with_reducible refine (arrearslaw6_alike.calls k _ _ t167 _ _ t172 false _ ?side1 ?side2 ?side3 ?side4 A14.out).mono ?_); (case side1 => repeat (first | exact (Kd.S_reads' HO171.out).2.2 | (with_reducible refine Kd.C_alloc ?_ _) | (with_reducible refine Kd.C_drewN ?_ _) | (with_reducible refine Kd.C_drew ?_))); (case side2 => exact (Kd.S_reads' HO171.out).2.1); (case side3 => repeat (first | exact (Kd.S_reads' HO176.out).2.2 | (with_reducible refine Kd.C_alloc ?_ _) | (with_reducible refine Kd.C_drewN ?_ _) | (with_reducible refine Kd.C_drew ?_))); (case side4 => exact (Kd.S_reads' HO176.out).2.1); rintro e w' ⟨rfl, ⟨nd, rfl⟩⟩; refine ⟨_, rfl, ?_⟩))
            go_meet
            case rel => exact ⟨_, (true), (by first | rfl | (simp; done) | (simp [*]; done)), H', ⟨by first | omega | exact Nat.le_refl _⟩, ⟨by (with_reducible repeat (first | apply Kd.R_alloc | apply Kd.R_drewN | apply Kd.R_drew)); exact HO162.out⟩, ⟨by (with_reducible repeat (first | apply Kd.S_alloc | apply Kd.S_drewN | apply Kd.S_drew)); exact Kd.S_mono HO171.out (fun _ hk => ⟨hk.1.2, hk.2⟩)⟩, ⟨by (with_reducible repeat (first | apply Kd.S_alloc | apply Kd.S_drewN | apply Kd.S_drew)); exact Kd.S_mono HO176.out (fun _ hk => ⟨hk.1.2, hk.2⟩)⟩, ⟨by repeat (first | (with_reducible exact HR166.out) | (with_reducible refine Kd.C_alloc ?_ _) | (with_reducible refine Kd.C_drewN ?_ _) | (with_reducible refine Kd.C_drew ?_) | exact HR166.out)⟩, ⟨by repeat (first | (with_reducible first | exact HB.out | apply below_alloc | apply pw_below_drewN | apply below_drew1) | exact HB.out)⟩⟩
        case rest =>
          clear HC8
          try clear c1
          try clear q1
          try clear c2
          try clear c2b0
          try clear c2b1
          try clear p2
          try clear c4
          try clear c4b0
          try clear c4b1
          try clear c5
          try clear c5b0
          try clear c5b1
          try clear c6
          try clear q10
          try clear c13
          try clear c15
          try clear c16
          try clear c16b0
          try clear c16b1
          try clear c17
          try clear c17b0
          try clear c17b1
          try clear c24
          try clear c28
          try clear c29
          try clear q10
          obtain ⟨kq, x53_7, rfl, HA, HJ7, HO_3, HO_4, HO_7, HR166, HB⟩ := hcut
          cases kq with
          | zero => exact absurd HA.out (by simp [arrearslaw6_FrameScans.j0])
          | succ kj7 =>
            have H := HA.out
            clear HA
            simp only [arrearslaw6_FrameScans.j0] at H
            by_cases c30 : x53_7 = true
            · subst c30
              have H1 : (none) = some r := by rw [if_pos rfl] at H; exact H
              clear H
              have H := H1
              clear H1
              exact absurd H (by simp)
            · replace c30 := Bool.eq_false_iff.mpr c30
              subst c30
              have H1 : ((arrearslaw6_turned.f kj7 t160 (l0.length : Int)).bind fun bt182 => (if 0 ≤ (l0.length : Int) then (if (l0.length : Int) ≤ (t160.length : Int) then ((frame_Scan.f kj7 (bt182.2.take ((l0.length : Int) : Int).toNat)).bind fun bt190 => ((arrearsref6_Scan.f kj7 bt182.1).bind fun bt195 => ((arrearslaw6_alike.f kj7 bt190.1 bt195.1).bind fun t200 => (if t200 = true then (if bt190.2.1 = bt195.2.1 then (if bt190.2.2 = bt195.2.2 then ((arrearslaw6_alike.f kj7 t167 t172).bind fun t201 => (some t201)) else (none)) else (none)) else (none))))) else (none)) else (none))) = some r := by rw [if_neg (show ¬ (false = true) by decide)] at H; exact H
              clear H
              have H := H1
              clear H1
              replace H := Option.bind_eq_some_iff.mp H
              obtain ⟨⟨t182, t185⟩, A310, H⟩ := H
              replace H : (if 0 ≤ (l0.length : Int) then (if (l0.length : Int) ≤ (t160.length : Int) then ((frame_Scan.f kj7 (t185.take ((l0.length : Int) : Int).toNat)).bind fun bt190 => ((arrearsref6_Scan.f kj7 t182).bind fun bt195 => ((arrearslaw6_alike.f kj7 bt190.1 bt195.1).bind fun t200 => (if t200 = true then (if bt190.2.1 = bt195.2.1 then (if bt190.2.2 = bt195.2.2 then ((arrearslaw6_alike.f kj7 t167 t172).bind fun t201 => (some t201)) else (none)) else (none)) else (none))))) else (none)) else (none)) = some r := H
              have A31 := Aside0.mk A310
              clear A310
              by_cases c32 : 0 ≤ (l0.length : Int)
              · rw [if_pos c32] at H
                have c32b0 := eq_true c32
                have c32b1 : decide (0 ≤ (l0.length : Int)) = true := decide_eq_true c32
                clear c32
                by_cases c33 : (l0.length : Int) ≤ (t160.length : Int)
                · rw [if_pos c33] at H
                  have c33b0 := eq_true c33
                  have c33b1 : decide ((l0.length : Int) ≤ (t160.length : Int)) = true := decide_eq_true c33
                  clear c33
                  obtain ⟨y186, hy186⟩ : ∃ y_ : List Int, y_ = (t185.take ((l0.length : Int) : Int).toNat) := ⟨_, rfl⟩
                  replace H : ((frame_Scan.f kj7 y186).bind fun bt190 => ((arrearsref6_Scan.f kj7 t182).bind fun bt195 => ((arrearslaw6_alike.f kj7 bt190.1 bt195.1).bind fun t200 => (if t200 = true then (if bt190.2.1 = bt195.2.1 then (if bt190.2.2 = bt195.2.2 then ((arrearslaw6_alike.f kj7 t167 t172).bind fun t201 => (some t201)) else (none)) else (none)) else (none))))) = some r := by first | (rw [hy186]; with_reducible exact H) | (have H2_ := (Option.bind_some _ _).symm.trans H; rw [hy186]; with_reducible exact H2_) | (have H2_ := (Option.bind_some _ _).symm.trans H; with_reducible exact H2_) | with_reducible exact H | (rw [hy186]; exact H) | exact H
                  have Ny186 := Aside0.mk hy186
                  clear hy186
                  replace H := Option.bind_eq_some_iff.mp H
                  obtain ⟨⟨t190, t191, t192⟩, A340, H⟩ := H
                  replace H : ((arrearsref6_Scan.f kj7 t182).bind fun bt195 => ((arrearslaw6_alike.f kj7 t190 bt195.1).bind fun t200 => (if t200 = true then (if t191 = bt195.2.1 then (if t192 = bt195.2.2 then ((arrearslaw6_alike.f kj7 t167 t172).bind fun t201 => (some t201)) else (none)) else (none)) else (none)))) = some r := H
                  have A34 := Aside0.mk A340
                  clear A340
                  replace H := Option.bind_eq_some_iff.mp H
                  obtain ⟨⟨t195, t196, t197⟩, A350, H⟩ := H
                  replace H : ((arrearslaw6_alike.f kj7 t190 t195).bind fun t200 => (if t200 = true then (if t191 = t196 then (if t192 = t197 then ((arrearslaw6_alike.f kj7 t167 t172).bind fun t201 => (some t201)) else (none)) else (none)) else (none))) = some r := H
                  have A35 := Aside0.mk A350
                  clear A350
                  replace H := Option.bind_eq_some_iff.mp H
                  obtain ⟨t200, A360, H⟩ := H
                  replace H : (if t200 = true then (if t191 = t196 then (if t192 = t197 then ((arrearslaw6_alike.f kj7 t167 t172).bind fun t201 => (some t201)) else (none)) else (none)) else (none)) = some r := H
                  have A36 := Aside0.mk A360
                  clear A360
                  by_cases c37 : t200 = true
                  · subst c37
                    have H1 : (if t191 = t196 then (if t192 = t197 then ((arrearslaw6_alike.f kj7 t167 t172).bind fun t201 => (some t201)) else (none)) else (none)) = some r := by rw [if_pos rfl] at H; exact H
                    clear H
                    have H := H1
                    clear H1
                    by_cases c38 : t191 = t196
                    · rw [if_pos c38] at H
                      have c38b0 : (t191 == t196) = true := beq_iff_eq.mpr c38
                      have c38b1 : (t191 != t196) = false := bne_eq_false_iff_eq.mpr c38
                      clear c38
                      by_cases c39 : t192 = t197
                      · rw [if_pos c39] at H
                        have c39b0 : (t192 == t197) = true := beq_iff_eq.mpr c39
                        have c39b1 : (t192 != t197) = false := bne_eq_false_iff_eq.mpr c39
                        clear c39
                        replace H := Option.bind_eq_some_iff.mp H
                        obtain ⟨t201, A400, H⟩ := H
                        replace H : (some t201) = some r := H
                        have A40 := Aside0.mk A400
                        clear A400
                        obtain rfl := Option.some.inj H
                        go_wp2_with (first | ((with_reducible refine gate_callee (f := 19) rfl ?_); refine goesL_ (some 57) rfl rfl Tryd.func19 (by kernel_rfl) rfl #[.slice Ao11 t160.length co11, .int .i64 (l0.length : Int)] rfl (by (try simp only [List.map_toArray, List.map_cons, List.map_nil]); first | done | rfl | (simp only [List.length_drop, List.length_take]; rfl)) ?_; (with_reducible refine (arrearslaw6_turned.calls kj7 (fun k_ => some k_ = (.slice Ao11 t160.length co11 : Value).ownBlock) (.slice Ao11 t160.length co11) t160 (l0.length : Int) t182 t185 w _ ?side1 ?side2 A31.out).mono ?_); (case side1 => repeat (first | (with_reducible first | exact HB.out | apply below_alloc | apply pw_below_drewN | apply below_drew1) | exact HB.out)); (case side2 => exact Kd.R_tight rfl HO_3.out); rintro e w41 ⟨v183, rfl, ho0, hy0, hb, hkp⟩; refine ⟨_, rfl, ?_⟩; have n0_ := Aside0.mk (Kd.R_reok rfl hy0 (fun k_ e_ => HO_3.out.1 k_ e_)); have n1_ := Aside0.mk (Kd.S_mono (ok' := fun k_ => some k_ ≠ (.slice Ao11 t160.length co11 : Value).ownBlock ∧ some k_ ≠ (v175 : Value).ownBlock ∧ some k_ ≠ (v183 : Value).ownBlock) (Kd.S_keptB (HO_4.out) hkp (fun k_ hk_ hs_ => (hk_.1) hs_)) (fun k_ hk_ => ⟨hk_.1.1, hk_.1.2, fun e_ => Or.elim (ho0.1 k_ e_.symm).1 (fun hs_ => hk_.2.1 hs_) (fun hn_ => Nat.not_le.2 hk_.2.2 hn_)⟩)); have n2_ := Aside0.mk (Kd.S_mono (ok' := fun k_ => some k_ ≠ (.slice Ao11 t160.length co11 : Value).ownBlock ∧ some k_ ≠ (v170 : Value).ownBlock ∧ some k_ ≠ (v183 : Value).ownBlock) (Kd.S_keptB (HO_7.out) hkp (fun k_ hk_ hs_ => (hk_.1) hs_)) (fun k_ hk_ => ⟨hk_.1.1, hk_.1.2, fun e_ => Or.elim (ho0.1 k_ e_.symm).1 (fun hs_ => hk_.2.1 hs_) (fun hn_ => Nat.not_le.2 hk_.2.2 hn_)⟩)); have n3_ := Aside0.mk (Kd.R_mono (ok' := fun k_ => some k_ ≠ (.slice Ao11 t160.length co11 : Value).ownBlock) ho0 (fun k_ hk_ => hk_.2)); have n4_ := Aside0.mk (hb); clear HO_3; clear HO_4; clear HO_7; clear HB; have HO_3 := n0_; have HO_4 := n1_; have HO_7 := n2_; have HO184 := n3_; have HB := n4_; clear n0_ n1_ n2_ n3_ n4_; (try clear hb); (try clear hkp); (try clear ho0); (try clear hy0); have hlx42 := (Kd.R_reads' HO_3.out).1; have q42 : ((l0.length : Int) : Int) ≤ ((t160.length : Int) : Int) := of_decide_eq_true (by first | (with_reducible assumption) | assumption); obtain ⟨i042, hi042, _, hsz42, _⟩ := info_parts info5; have hroom42 : t160.length ≤ co11 := (Kd.R_reads' HO_3.out).2.1; have hroomc42 : t185.length ≤ co11 := (by rw [← hlx42]; exact hroom42); have hC42 : Kd.C (Kd.int .u8) _ Ao11 t185.length t185 := (Kd.R_reads' HO_3.out).2.2; (try clear hcut10); have hcut42 := cut_to (P := Tryd.prog) 23 5 .i64 Tryd.underlying23 hi042 Ao11 t160.length co11 (l0.length : Int) (of_decide_eq_true (by first | (with_reducible assumption) | assumption)) q42 hroom42; have hr42 := Kd.C_take (m := ((l0.length : Int) : Int).toNat) hC42 (by omega); have hy42 : y186.length = ((l0.length : Int) : Int).toNat := (by rw [Ny186.out, List.length_take]; omega); rw [← Ny186.out] at hr42; rw [← hy42] at hcut42; have HR189 := Aside0.mk hr42; have HC189 := Aside0.mk (show y186.length ≤ co11 from by omega); clear hr42 hC42 hroom42 hi042 hsz42 hroomc42; have KY42 := Aside0.mk hy42; clear hy42; have KE42 := Aside0.mk hlx42; have KL42 := Aside0.mk (show ((l0.length : Int) : Int).toNat ≤ t185.length from by omega); clear hlx42; replace q42 := eq_true q42) | ((with_reducible refine gate_callee (f := 28) rfl ?_); refine goesL_ (some 63) rfl rfl Tryd.func28 (by kernel_rfl) rfl #[.slice Ao11 y186.length co11] rfl (by (try simp only [List.map_toArray, List.map_cons, List.map_nil]); first | done | rfl | (simp only [List.length_drop, List.length_take]; rfl)) ?_; (with_reducible refine (frame_Scan.calls kj7 _ _ y186 t190 t191 t192 _ ?side1 ?side2 ?sideL A34.out).mono ?_); (case sideL => exact laid_at HL0_.out (by repeat (first | (with_reducible first | exact HB.out | apply below_alloc | apply pw_below_drewN | apply below_drew1 | refine below_set ?_ (Aside0.out (by assumption))) | exact HB.out | exact Below.refl _ _ | exact Drawn0.below (Drawn0.refl _)))); (case side1 => repeat (first | exact (by repeat (first | (with_reducible exact HR189.out) | (with_reducible refine Kd.C_alloc ?_ _) | (with_reducible refine Kd.C_drewN ?_ _) | (with_reducible refine Kd.C_drew ?_) | exact HR189.out)) | (with_reducible refine Kd.C_alloc ?_ _) | (with_reducible refine Kd.C_drewN ?_ _) | (with_reducible refine Kd.C_drew ?_))); (case side2 => exact HC189.out); rintro e w43 ⟨v193, rfl, ho0, hb⟩; refine ⟨_, rfl, ?_⟩; have n0_ := Aside0.mk (Kd.R_below (by (with_reducible repeat (first | apply Kd.R_alloc | apply Kd.R_drewN | apply Kd.R_drew)); exact HO_3.out) hb); have n1_ := Aside0.mk (Kd.S_elder' (by (with_reducible repeat (first | apply Kd.S_alloc | apply Kd.S_drewN | apply Kd.S_drew)); exact HO_4.out) (Kd.S_base ho0) hb); have n2_ := Aside0.mk (Kd.S_elder' (by (with_reducible repeat (first | apply Kd.S_alloc | apply Kd.S_drewN | apply Kd.S_drew)); exact HO_7.out) (Kd.S_base ho0) hb); have n3_ := Aside0.mk (Kd.R_below (by (with_reducible repeat (first | apply Kd.R_alloc | apply Kd.R_drewN | apply Kd.R_drew)); exact HO184.out) hb); have n4_ := Aside0.mk (Kd.S_lower (Kd.S_new' (Kd.S_new' (Kd.S_new' (Kd.S_new' ho0 (Kd.R_lt (by (with_reducible repeat (first | apply Kd.R_alloc | apply Kd.R_drewN | apply Kd.R_drew)); exact HO_3.out))) (Kd.S_lt (by (with_reducible repeat (first | apply Kd.S_alloc | apply Kd.S_drewN | apply Kd.S_drew)); exact HO_4.out))) (Kd.S_lt (by (with_reducible repeat (first | apply Kd.S_alloc | apply Kd.S_drewN | apply Kd.S_drew)); exact HO_7.out))) (Kd.R_lt (by (with_reducible repeat (first | apply Kd.R_alloc | apply Kd.R_drewN | apply Kd.R_drew)); exact HO184.out))) (below_size (by repeat (first | (with_reducible first | exact HB.out | apply below_alloc | apply pw_below_drewN | apply below_drew1) | exact HB.out)))); have n5_ := Aside0.mk (Kd.C_below (by repeat (first | (with_reducible exact HR189.out) | (with_reducible refine Kd.C_alloc ?_ _) | (with_reducible refine Kd.C_drewN ?_ _) | (with_reducible refine Kd.C_drew ?_) | exact HR189.out)) hb); have n6_ := Aside0.mk (below_step (by repeat (first | (with_reducible first | exact HB.out | apply below_alloc | apply pw_below_drewN | apply below_drew1) | exact HB.out)) hb); clear HO_3; clear HO_4; clear HO_7; clear HO184; clear HR189; clear HB; have HO_3 := n0_; have HO_4 := n1_; have HO_7 := n2_; have HO184 := n3_; have HO194 := n4_; have HR189 := n5_; have HB := n6_; clear n0_ n1_ n2_ n3_ n4_ n5_ n6_; (try clear hb); (try clear hb2); (try clear hk); (try clear hi); (try clear ho0); obtain ⟨Ao44, co44, eo44⟩ := Kd.R_slice HO184.out; subst eo44) | ((with_reducible refine gate_callee (f := 29) rfl ?_); refine goesL_ (some 69) rfl rfl Tryd.func29 (by kernel_rfl) rfl #[.slice Ao44 t182.length co44] rfl (by (try simp only [List.map_toArray, List.map_cons, List.map_nil]); first | done | rfl | (simp only [List.length_drop, List.length_take]; rfl)) ?_; (with_reducible refine (arrearsref6_Scan.calls kj7 _ _ t182 t195 t196 t197 _ ?side1 ?side2 A35.out).mono ?_); (case side1 => repeat (first | exact (Kd.R_reads' HO184.out).2.2 | (with_reducible refine Kd.C_alloc ?_ _) | (with_reducible refine Kd.C_drewN ?_ _) | (with_reducible refine Kd.C_drew ?_))); (case side2 => exact (Kd.R_reads' HO184.out).2.1); rintro e w45 ⟨v198, rfl, ho0, hb⟩; refine ⟨_, rfl, ?_⟩; have n0_ := Aside0.mk (Kd.R_below (by (with_reducible repeat (first | apply Kd.R_alloc | apply Kd.R_drewN | apply Kd.R_drew)); exact HO_3.out) hb); have n1_ := Aside0.mk (Kd.S_elder' (by (with_reducible repeat (first | apply Kd.S_alloc | apply Kd.S_drewN | apply Kd.S_drew)); exact HO_4.out) (Kd.S_base ho0) hb); have n2_ := Aside0.mk (Kd.S_elder' (by (with_reducible repeat (first | apply Kd.S_alloc | apply Kd.S_drewN | apply Kd.S_drew)); exact HO_7.out) (Kd.S_base ho0) hb); have n3_ := Aside0.mk (Kd.R_below (by (with_reducible repeat (first | apply Kd.R_alloc | apply Kd.R_drewN | apply Kd.R_drew)); exact HO184.out) hb); have n4_ := Aside0.mk (Kd.S_elder' (by (with_reducible repeat (first | apply Kd.S_alloc | apply Kd.S_drewN | apply Kd.S_drew)); exact HO194.out) (Kd.S_base ho0) hb); have n5_ := Aside0.mk (Kd.S_lower (Kd.S_new' (Kd.S_new' (Kd.S_new' (Kd.S_new' (Kd.S_new' ho0 (Kd.R_lt (by (with_reducible repeat (first | apply Kd.R_alloc | apply Kd.R_drewN | apply Kd.R_drew)); exact HO_3.out))) (Kd.S_lt (by (with_reducible repeat (first | apply Kd.S_alloc | apply Kd.S_drewN | apply Kd.S_drew)); exact HO_4.out))) (Kd.S_lt (by (with_reducible repeat (first | apply Kd.S_alloc | apply Kd.S_drewN | apply Kd.S_drew)); exact HO_7.out))) (Kd.R_lt (by (with_reducible repeat (first | apply Kd.R_alloc | apply Kd.R_drewN | apply Kd.R_drew)); exact HO184.out))) (Kd.S_lt (by (with_reducible repeat (first | apply Kd.S_alloc | apply Kd.S_drewN | apply Kd.S_drew)); exact HO194.out))) (below_size (by repeat (first | (with_reducible first | exact HB.out | apply below_alloc | apply pw_below_drewN | apply below_drew1) | exact HB.out)))); have n6_ := Aside0.mk (Kd.C_below (by repeat (first | (with_reducible exact HR189.out) | (with_reducible refine Kd.C_alloc ?_ _) | (with_reducible refine Kd.C_drewN ?_ _) | (with_reducible refine Kd.C_drew ?_) | exact HR189.out)) hb); have n7_ := Aside0.mk (below_step (by repeat (first | (with_reducible first | exact HB.out | apply below_alloc | apply pw_below_drewN | apply below_drew1) | exact HB.out)) hb); clear HO_3; clear HO_4; clear HO_7; clear HO184; clear HO194; clear HR189; clear HB; have HO_3 := n0_; have HO_4 := n1_; have HO_7 := n2_; have HO184 := n3_; have HO194 := n4_; have HO199 := n5_; have HR189 := n6_; have HB := n7_; clear n0_ n1_ n2_ n3_ n4_ n5_ n6_ n7_; (try clear hb); (try clear hb2); (try clear hk); (try clear hi); (try clear ho0); obtain ⟨Ao46, co46, eo46⟩ := Kd.S_slice HO194.out; subst eo46; obtain ⟨Ao47, co47, eo47⟩ := Kd.S_slice HO199.out; subst eo47) | ((with_reducible refine gate_callee (f := 24) rfl ?_); refine goesL_ (some 75) rfl rfl Tryd.func24 (by kernel_rfl) rfl #[.slice Ao46 t190.length co46, .slice Ao47 t195.length co47] rfl (by (try simp only [List.map_toArray, List.map_cons, List.map_nil]); first | done | rfl | (simp only [List.length_drop, List.length_take]; rfl)) ?_; (with_reducible refine (arrearslaw6_alike.calls kj7 _ _ t190 _ _ t195 true _ ?side1 ?side2 ?side3 ?side4 A36.out).mono ?_); (case side1 => repeat (first | exact (Kd.S_reads' HO194.out).2.2 | (with_reducible refine Kd.C_alloc ?_ _) | (with_reducible refine Kd.C_drewN ?_ _) | (with_reducible refine Kd.C_drew ?_))); (case side2 => exact (Kd.S_reads' HO194.out).2.1); (case side3 => repeat (first | exact (Kd.S_reads' HO199.out).2.2 | (with_reducible refine Kd.C_alloc ?_ _) | (with_reducible refine Kd.C_drewN ?_ _) | (with_reducible refine Kd.C_drew ?_))); (case side4 => exact (Kd.S_reads' HO199.out).2.1); rintro e w' ⟨rfl, ⟨nd, rfl⟩⟩; refine ⟨_, rfl, ?_⟩; obtain ⟨Ao48, co48, eo48⟩ := Kd.S_slice HO_4.out; subst eo48; obtain ⟨Ao49, co49, eo49⟩ := Kd.S_slice HO_7.out; subst eo49) | (go_at_call 24; (with_reducible refine (arrearslaw6_alike.calls kj7 _ _ t167 _ _ t172 t201 _ ?side1 ?side2 ?side3 ?side4 A40.out).mono ?_); (case side1 => repeat (first | exact (Kd.S_reads' HO_4.out).2.2 | (with_reducible refine Kd.C_alloc ?_ _) | (with_reducible refine Kd.C_drewN ?_ _) | (with_reducible refine Kd.C_drew ?_))); (case side2 => exact (Kd.S_reads' HO_4.out).2.1); (case side3 => repeat (first | exact (Kd.S_reads' HO_7.out).2.2 | (with_reducible refine Kd.C_alloc ?_ _) | (with_reducible refine Kd.C_drewN ?_ _) | (with_reducible refine Kd.C_drew ?_))); (case side4 => exact (Kd.S_reads' HO_7.out).2.1); rintro e w' ⟨rfl, ⟨nd, rfl⟩⟩))
                        go_ret
                        exact ⟨by first | rfl | (simp [errW_none, errW_some] <;> rfl) | (simp [*, errW_none, errW_some] <;> rfl), by repeat (first | (with_reducible first | exact HB.out | apply below_alloc | apply pw_below_drewN | apply below_drew1) | exact HB.out)⟩
                      · rw [if_neg c39] at H
                        exact absurd H (by simp)
                    · rw [if_neg c38] at H
                      exact absurd H (by simp)
                  · replace c37 := Bool.eq_false_iff.mpr c37
                    subst c37
                    have H1 : (none) = some r := by rw [if_neg (show ¬ (false = true) by decide)] at H; exact H
                    clear H
                    have H := H1
                    clear H1
                    exact absurd H (by simp)
                · rw [if_neg c33] at H
                  exact absurd H (by simp)
              · rw [if_neg c32] at H
                exact absurd H (by simp)
      · rw [if_neg c5] at H
        exact absurd H (by simp)
    · rw [if_neg c4] at H
      exact absurd H (by simp)

end Go.Proofs.YtgfjmpnlkjocaaaDoor.S
