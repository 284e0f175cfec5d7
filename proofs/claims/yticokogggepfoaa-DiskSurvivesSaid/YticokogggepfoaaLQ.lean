/- fell: what is left of a disk that went down at a write. No condition but that it is so. -/
import Derived.Test.YticokogggepfoaaLP
import Derived.Deep.DrawnRows
namespace Go.Proofs.Yticokogggepfoaa.D
open Go.RowKit Go.Proofs.YticokogggepfoaaW.PrintWords Go.Proofs.YticokogggepfoaaW.PrintLast Go.Proofs.YticokogggepfoaaW.PrintMore Go.Proofs.Yticokogggepfoaa.G
attribute [local go_sem] max2_int min2_int max_two min_two max_three min_three max_four min_four
set_option linter.unusedVariables false
set_option linter.unusedSimpArgs false
set_option maxRecDepth 100000
attribute [local go_sem ↓] Go.wp_at_zero Go.wp_at_succ
section
variable {W : World} {m : OM} {A : Option Addr} {c : Nat} {s t : SD} {a b : SL}
set_option maxHeartbeats 8000000 in
theorem fell_calls (hF : Fell m s t) (hm : Kd.C By W A m.data.length m.data) (hc : m.data.length ≤ c) (hl : m.data.length < 140737488355328) (hs : SC W s a) (ht : SC W t b) :
    Calls Try.prog 36 #[.agg (OV m A c), .agg (SDV s a), .agg (SDV t b)] W fun e w' => e = .returned (.bool true) ∧ Below W.heap.size W w' := by
  have HF := Aside0.mk hF
  have HM := Aside0.mk hm
  have HMC := Aside0.mk hc
  have HML := Aside0.mk hl
  have HS := Aside0.mk hs
  have HT := Aside0.mk ht
  obtain ⟨kd, ot, fl, ma, mb, data⟩ := m
  obtain ⟨r0, r1, d0, d1, dn⟩ := s
  obtain ⟨r0', r1', d0', d1', dn'⟩ := t
  obtain ⟨A0, c0, A1, c1, A2, c2, A3, c3⟩ := a
  obtain ⟨A0', c0', A1', c1', A2', c2', A3', c3'⟩ := b
  have hk1 : decide (kd < 1) = false := decide_eq_false (by have := HF.out.kd.1; dsimp only at this; omega)
  have hk4 : decide (4 < kd) = false := decide_eq_false (by have := HF.out.kd.2; dsimp only at this; omega)
  have hu45 := Try.underlying45
  have hu41 := Try.underlying41
  clear hF hm hc hl hs ht
  go_enter Try.func36, Try.ntmps36
  go_wp2_with fail
  go_loopw [7] (fun i wr => ∃ k : Nat, k ≤ 2 ∧ i = .int .i64 (k : Int) ∧ Aside0 (Bx W wr ⟨kd, ot, fl, ma, mb, data⟩ A c ⟨r0, r1, d0, d1, dn⟩ ⟨r0', r1', d0', d1', dn'⟩ ⟨A0, c0, A1, c1, A2, c2, A3, c3⟩ ⟨A0', c0', A1', c1', A2', c2', A3', c3'⟩)) (fun i _ => 2 - (intOf i).toNat)
  case atStart => exact ⟨0, by omega, rfl, ⟨Bx.new⟩⟩
  case round =>
    obtain ⟨k, hk, rfl, HB⟩ := hrel
    clear hk1 hk4
    have hxx := Bx.ops HB.out
    have HXX := Aside0.mk hxx
    clear hxx
    obtain ⟨x0, x1, x2, x3, x4, x5⟩ := HXX.out
    obtain ⟨y0, y1, y2, y3, y4⟩ := sd_cells HB.out.was
    obtain ⟨z0, z1, z2, z3, z4⟩ := sd_cells HB.out.is
    dsimp only at x0 x1 x2 x3 x4 x5 y0 y1 y2 y3 y4 z0 z1 z2 z3 z4
    have hf0 := blk_frozen HB.out.op
    have hf1 := blk_frozen HB.out.was
    have hf2 := blk_frozen HB.out.is
    rcases (show k = 0 ∨ k = 1 ∨ k = 2 by omega) with rfl | rfl | rfl
    · have HRr : Aside0 (Rd W A0 c0 r0) := ⟨HS.out.r0⟩
      have HRd : Aside0 (Rd W A2 c2 d0) := ⟨HS.out.d0⟩
      have HRt : Aside0 (Rd W A2' c2' d0') := ⟨HT.out.d0⟩
      have HP1 := Aside0.mk (show d0 <+: d0' from HF.out.pre 0 (by omega))
      have hp2 := HF.out.post 0 (by omega)
      clear y1 y3 z1 z3
      by_cases hf : fl = 0
      · subst hf
        by_cases hk1 : kd = 1 ∨ kd = 2
        · have HP2 := Aside0.mk (show d0' <+: r0 ++ OM.hand ⟨kd, ot, 0, ma, mb, data⟩ by have h_ := hp2; unfold OM.apd at h_; rw [if_pos ⟨rfl, hk1⟩] at h_; exact h_)
          have HLA := Aside0.mk (show r0.length + (OM.hand ⟨kd, ot, 0, ma, mb, data⟩).length ≤ 16777216 from HF.out.fits 0 (by omega) rfl hk1)
          clear hp2
          rcases hk1 with rfl | rfl
          · obtain ⟨al, hal⟩ : ∃ al, al = (r0 ++ OM.hand ⟨1, ot, 0, ma, mb, data⟩) := ⟨_, rfl⟩
            rw [← hal] at HP2
            have HAL := Aside0.mk hal
            clear hal
            go_upto_region 8 with fail
            go_cut [8] (fun v wx => ∃ (A9 : Option Addr) (c9 : Nat), v = .slice A9 al.length c9 ∧ Aside0 (Rd wx A9 c9 al) ∧ Aside0 (Bx W wx ⟨1, ot, 0, ma, mb, data⟩ A c ⟨r0, r1, d0, d1, dn⟩ ⟨r0', r1', d0', d1', dn'⟩ ⟨A0, c0, A1, c1, A2, c2, A3, c3⟩ ⟨A0', c0', A1', c1', A2', c2', A3', c3'⟩))
            case first =>
              go_region_held3 (fun w' => w'.cell? ⟨W.heap.size, 0, none⟩ = some (.int .i64 1) ∧ w'.cell? ⟨W.heap.size, 1, none⟩ = some (.bool ot) ∧ w'.cell? ⟨W.heap.size, 2, none⟩ = some (.int .i64 0) ∧ w'.cell? ⟨W.heap.size, 3, none⟩ = some (.int .i64 ma) ∧ w'.cell? ⟨W.heap.size, 4, none⟩ = some (.int .i64 mb) ∧ w'.cell? ⟨W.heap.size, 5, none⟩ = some (.slice A data.length c)) (first | exact Bx.ops (HB.out.next HBN.out) | exact Bx.ops HB.out | exact Bx.ops (HB.out.next HU15.out) | exact Bx.ops (HB.out.next HU43.out) | exact Bx.ops (HB.out.next HBN.out)) (first
            | (go_at_call 15; (with_reducible refine (lcopied_calls ?C15 HRr.out.cap (by have := HRr.out.len; omega)).mono ?_); (case C15 => exact Kd.C_below HRr.out.C (by repeat (first | exact HB.out.below | exact HX43.out | exact HX15.out | refine below_drew ?_))); rintro e w3 ⟨v, rfl, hf⟩; obtain ⟨A5, c5, rfl, _⟩ := Kd.R_slice_len hf.1; have HF15 : Aside0 (Fresh wr r0 _ w3) := ⟨hf.lower (by repeat (first | exact Below.refl _ _ | exact HU43.out | exact HU15.out | refine below_drew ?_))⟩; have HU15 : Aside0 (Below wr.heap.size wr w3) := ⟨HF15.out.2⟩; have HX15 : Aside0 (Below W.heap.size W w3) := ⟨HB.out.below.trans (HU15.out.mono HB.out.below.size)⟩; (try (have HF43 := Aside0.mk (HF43.out.later (Below.trans (by repeat (first | exact Below.refl _ _ | refine below_drew ?_)) hf.2)))); clear hf)
            | (go_at_call 43; (with_reducible refine (hand_calls (m := ⟨1, ot, 0, ma, mb, data⟩) ?C43 HMC.out HML.out).mono ?_); (case C43 => exact Kd.C_below HM.out (by repeat (first | exact HB.out.below | exact HX43.out | exact HX15.out | refine below_drew ?_))); rintro e w3 ⟨v, rfl, hf⟩; obtain ⟨A6, c6, rfl, _⟩ := Kd.R_slice_len hf.1; have HF43 : Aside0 (Fresh wr (OM.hand ⟨1, ot, 0, ma, mb, data⟩) _ w3) := ⟨hf.lower (by repeat (first | exact Below.refl _ _ | exact HU43.out | exact HU15.out | refine below_drew ?_))⟩; have HU43 : Aside0 (Below wr.heap.size wr w3) := ⟨HF43.out.2⟩; have HX43 : Aside0 (Below W.heap.size W w3) := ⟨HB.out.below.trans (HU43.out.mono HB.out.below.size)⟩; (try (have HF15 := Aside0.mk (HF15.out.later (Below.trans (by repeat (first | exact Below.refl _ _ | refine below_drew ?_)) hf.2)))); clear hf)
            | (refine Kd.R_append_rows_step By (w0 := wr) wr.heap.size (by rfl) (.tmp 40) (.tmp 42) 28 5 (.int .u8 0) 1 (by rfl) Try.underlying28 G.info5 rfl (by decide) (by decide) (.slice A5 r0.length c5) r0 (OM.hand ⟨1, ot, 0, ma, mb, data⟩) A6 (OM.hand ⟨1, ot, 0, ma, mb, data⟩).length c6 (fun _ => True) (fun _ => False) (by rfl) (by rfl) ?aO ?aR (fun _ _ hk => hk) (fun _ hk => hk.elim) (fun _ _ => trivial) ?aB ?aS ?aL ?_; (case aO => exact (HF15.out.later (by repeat (first | exact Below.refl _ _ | refine below_drew ?_))).1); (case aR => exact (HF43.out.later (by repeat (first | exact Below.refl _ _ | refine below_drew ?_))).reads); (case aB => exact (HF15.out.later (by repeat (first | exact Below.refl _ _ | refine below_drew ?_))).2); (case aS => exact HF15.out.2.size); (case aL => rw [Nat.mul_one]; exact Nat.le_trans HLA.out (by decide)); intro u1 w5 hr1 hb1 hg1 hat1; obtain ⟨A9, n9, rfl, hn9⟩ := Kd.R_slice_len hr1; have HRN := Aside0.mk hr1; have HBN := Aside0.mk hb1; have HNN := Aside0.mk hn9; clear hr1 hb1 hg1 hat1 hn9) | fail)
              all_goals
                go_wp2_with fail
                go_meet
                exact ⟨_, _, by rw [HAL.out, List.length_append], ⟨by rw [HAL.out]; exact ⟨(Kd.R_reads' HRN.out).2.2, HNN.out, by rw [List.length_append]; exact HLA.out⟩⟩, ⟨HB.out.next HBN.out⟩⟩
            case rest =>
              obtain ⟨A9, c9, rfl, HR9, HBX⟩ := hcut
              clear x0 x1 x2 x3 x4 x5 y0 y2 y4 z0 z2 z4 HXX hf0 hf1 hf2
              obtain ⟨y0, y1, y2, y3, y4⟩ := sd_cells HBX.out.was
              obtain ⟨z0, z1, z2, z3, z4⟩ := sd_cells HBX.out.is
              dsimp only at y0 y1 y2 y3 y4 z0 z1 z2 z3 z4
              clear y0 y1 y3 z0 z1 z3
              have HCd := Aside0.mk (Kd.C_below HRd.out.C HBX.out.below)
              have HCt := Aside0.mk (Kd.C_below HRt.out.C HBX.out.below)
              have HCr := Aside0.mk HR9.out.C
              go_wp2_with fail
              go_quiet ((first | (go_at_call 45; first | exact Calls.quiet_of (begins_q (Kd.C_drewN HCd.out _) HRd.out.cap (Kd.C_drewN HCt.out _) HRt.out.cap HP1.out (by have := HRt.out.len; omega)) | exact Calls.quiet_of (begins_q (Kd.C_drewN HCt.out _) HRt.out.cap (Kd.C_drewN HCr.out _) HR9.out.cap HP2.out (by have := HR9.out.len; omega)))))
              go_wp2
              go_roundw
              case rel => exact ⟨1, by omega, by first | rfl | go_num, ⟨Bx.next HBX.out (by repeat (first | exact Below.refl _ _ | refine pw_below_drewN ?_ _))⟩⟩
              case measure => simp [intOf]
          · obtain ⟨al, hal⟩ : ∃ al, al = (r0 ++ OM.hand ⟨2, ot, 0, ma, mb, data⟩) := ⟨_, rfl⟩
            rw [← hal] at HP2
            have HAL := Aside0.mk hal
            clear hal
            go_upto_region 8 with fail
            go_cut [8] (fun v wx => ∃ (A9 : Option Addr) (c9 : Nat), v = .slice A9 al.length c9 ∧ Aside0 (Rd wx A9 c9 al) ∧ Aside0 (Bx W wx ⟨2, ot, 0, ma, mb, data⟩ A c ⟨r0, r1, d0, d1, dn⟩ ⟨r0', r1', d0', d1', dn'⟩ ⟨A0, c0, A1, c1, A2, c2, A3, c3⟩ ⟨A0', c0', A1', c1', A2', c2', A3', c3'⟩))
            case first =>
              go_region_held3 (fun w' => w'.cell? ⟨W.heap.size, 0, none⟩ = some (.int .i64 2) ∧ w'.cell? ⟨W.heap.size, 1, none⟩ = some (.bool ot) ∧ w'.cell? ⟨W.heap.size, 2, none⟩ = some (.int .i64 0) ∧ w'.cell? ⟨W.heap.size, 3, none⟩ = some (.int .i64 ma) ∧ w'.cell? ⟨W.heap.size, 4, none⟩ = some (.int .i64 mb) ∧ w'.cell? ⟨W.heap.size, 5, none⟩ = some (.slice A data.length c)) (first | exact Bx.ops (HB.out.next HBN.out) | exact Bx.ops HB.out | exact Bx.ops (HB.out.next HU15.out) | exact Bx.ops (HB.out.next HU43.out) | exact Bx.ops (HB.out.next HBN.out)) (first
            | (go_at_call 15; (with_reducible refine (lcopied_calls ?C15 HRr.out.cap (by have := HRr.out.len; omega)).mono ?_); (case C15 => exact Kd.C_below HRr.out.C (by repeat (first | exact HB.out.below | exact HX43.out | exact HX15.out | refine below_drew ?_))); rintro e w3 ⟨v, rfl, hf⟩; obtain ⟨A5, c5, rfl, _⟩ := Kd.R_slice_len hf.1; have HF15 : Aside0 (Fresh wr r0 _ w3) := ⟨hf.lower (by repeat (first | exact Below.refl _ _ | exact HU43.out | exact HU15.out | refine below_drew ?_))⟩; have HU15 : Aside0 (Below wr.heap.size wr w3) := ⟨HF15.out.2⟩; have HX15 : Aside0 (Below W.heap.size W w3) := ⟨HB.out.below.trans (HU15.out.mono HB.out.below.size)⟩; (try (have HF43 := Aside0.mk (HF43.out.later (Below.trans (by repeat (first | exact Below.refl _ _ | refine below_drew ?_)) hf.2)))); clear hf)
            | (go_at_call 43; (with_reducible refine (hand_calls (m := ⟨2, ot, 0, ma, mb, data⟩) ?C43 HMC.out HML.out).mono ?_); (case C43 => exact Kd.C_below HM.out (by repeat (first | exact HB.out.below | exact HX43.out | exact HX15.out | refine below_drew ?_))); rintro e w3 ⟨v, rfl, hf⟩; obtain ⟨A6, c6, rfl, _⟩ := Kd.R_slice_len hf.1; have HF43 : Aside0 (Fresh wr (OM.hand ⟨2, ot, 0, ma, mb, data⟩) _ w3) := ⟨hf.lower (by repeat (first | exact Below.refl _ _ | exact HU43.out | exact HU15.out | refine below_drew ?_))⟩; have HU43 : Aside0 (Below wr.heap.size wr w3) := ⟨HF43.out.2⟩; have HX43 : Aside0 (Below W.heap.size W w3) := ⟨HB.out.below.trans (HU43.out.mono HB.out.below.size)⟩; (try (have HF15 := Aside0.mk (HF15.out.later (Below.trans (by repeat (first | exact Below.refl _ _ | refine below_drew ?_)) hf.2)))); clear hf)
            | (refine Kd.R_append_rows_step By (w0 := wr) wr.heap.size (by rfl) (.tmp 40) (.tmp 42) 28 5 (.int .u8 0) 1 (by rfl) Try.underlying28 G.info5 rfl (by decide) (by decide) (.slice A5 r0.length c5) r0 (OM.hand ⟨2, ot, 0, ma, mb, data⟩) A6 (OM.hand ⟨2, ot, 0, ma, mb, data⟩).length c6 (fun _ => True) (fun _ => False) (by rfl) (by rfl) ?aO ?aR (fun _ _ hk => hk) (fun _ hk => hk.elim) (fun _ _ => trivial) ?aB ?aS ?aL ?_; (case aO => exact (HF15.out.later (by repeat (first | exact Below.refl _ _ | refine below_drew ?_))).1); (case aR => exact (HF43.out.later (by repeat (first | exact Below.refl _ _ | refine below_drew ?_))).reads); (case aB => exact (HF15.out.later (by repeat (first | exact Below.refl _ _ | refine below_drew ?_))).2); (case aS => exact HF15.out.2.size); (case aL => rw [Nat.mul_one]; exact Nat.le_trans HLA.out (by decide)); intro u1 w5 hr1 hb1 hg1 hat1; obtain ⟨A9, n9, rfl, hn9⟩ := Kd.R_slice_len hr1; have HRN := Aside0.mk hr1; have HBN := Aside0.mk hb1; have HNN := Aside0.mk hn9; clear hr1 hb1 hg1 hat1 hn9) | fail)
              all_goals
                go_wp2_with fail
                go_meet
                exact ⟨_, _, by rw [HAL.out, List.length_append], ⟨by rw [HAL.out]; exact ⟨(Kd.R_reads' HRN.out).2.2, HNN.out, by rw [List.length_append]; exact HLA.out⟩⟩, ⟨HB.out.next HBN.out⟩⟩
            case rest =>
              obtain ⟨A9, c9, rfl, HR9, HBX⟩ := hcut
              clear x0 x1 x2 x3 x4 x5 y0 y2 y4 z0 z2 z4 HXX hf0 hf1 hf2
              obtain ⟨y0, y1, y2, y3, y4⟩ := sd_cells HBX.out.was
              obtain ⟨z0, z1, z2, z3, z4⟩ := sd_cells HBX.out.is
              dsimp only at y0 y1 y2 y3 y4 z0 z1 z2 z3 z4
              clear y0 y1 y3 z0 z1 z3
              have HCd := Aside0.mk (Kd.C_below HRd.out.C HBX.out.below)
              have HCt := Aside0.mk (Kd.C_below HRt.out.C HBX.out.below)
              have HCr := Aside0.mk HR9.out.C
              go_wp2_with fail
              go_quiet ((first | (go_at_call 45; first | exact Calls.quiet_of (begins_q (Kd.C_drewN HCd.out _) HRd.out.cap (Kd.C_drewN HCt.out _) HRt.out.cap HP1.out (by have := HRt.out.len; omega)) | exact Calls.quiet_of (begins_q (Kd.C_drewN HCt.out _) HRt.out.cap (Kd.C_drewN HCr.out _) HR9.out.cap HP2.out (by have := HR9.out.len; omega)))))
              go_wp2
              go_roundw
              case rel => exact ⟨1, by omega, by first | rfl | go_num, ⟨Bx.next HBX.out (by repeat (first | exact Below.refl _ _ | refine pw_below_drewN ?_ _))⟩⟩
              case measure => simp [intOf]
        · have k1 : (kd == (1 : Int)) = false := by simp; omega
          have k2 : (kd == (2 : Int)) = false := by simp; omega
          have HP2 := Aside0.mk (show d0' <+: r0 by have h_ := hp2; unfold OM.apd at h_; rw [if_neg (fun h_ => hk1 h_.2)] at h_; exact h_)
          have HCd := Aside0.mk (Kd.C_below HRd.out.C HB.out.below)
          have HCt := Aside0.mk (Kd.C_below HRt.out.C HB.out.below)
          have HCr := Aside0.mk (Kd.C_below HRr.out.C HB.out.below)
          clear hk1 hp2
          go_wp2_with fail
          go_quiet ((first | (go_at_call 45; first | exact Calls.quiet_of (begins_q (Kd.C_drewN HCd.out _) HRd.out.cap (Kd.C_drewN HCt.out _) HRt.out.cap HP1.out (by have := HRt.out.len; omega)) | exact Calls.quiet_of (begins_q (Kd.C_drewN HCt.out _) HRt.out.cap (Kd.C_drewN HCr.out _) HRr.out.cap HP2.out (by have := HRr.out.len; omega)))))
          go_wp2
          go_roundw
          case rel => exact ⟨1, by omega, by first | rfl | go_num, ⟨Bx.next HB.out (by repeat (first | exact Below.refl _ _ | refine pw_below_drewN ?_ _))⟩⟩
          case measure => simp [intOf]
      · have k1 : ((0 : Int) == fl) = false := by simp; omega
        have HP2 := Aside0.mk (show d0' <+: r0 by have h_ := hp2; unfold OM.apd at h_; rw [if_neg (fun h_ => hf h_.1.symm)] at h_; exact h_)
        have HCd := Aside0.mk (Kd.C_below HRd.out.C HB.out.below)
        have HCt := Aside0.mk (Kd.C_below HRt.out.C HB.out.below)
        have HCr := Aside0.mk (Kd.C_below HRr.out.C HB.out.below)
        clear hf hp2
        go_wp2_with fail
        go_quiet ((first | (go_at_call 45; first | exact Calls.quiet_of (begins_q (Kd.C_drewN HCd.out _) HRd.out.cap (Kd.C_drewN HCt.out _) HRt.out.cap HP1.out (by have := HRt.out.len; omega)) | exact Calls.quiet_of (begins_q (Kd.C_drewN HCt.out _) HRt.out.cap (Kd.C_drewN HCr.out _) HRr.out.cap HP2.out (by have := HRr.out.len; omega)))))
        go_wp2
        go_roundw
        case rel => exact ⟨1, by omega, by first | rfl | go_num, ⟨Bx.next HB.out (by repeat (first | exact Below.refl _ _ | refine pw_below_drewN ?_ _))⟩⟩
        case measure => simp [intOf]
    · have HRr : Aside0 (Rd W A1 c1 r1) := ⟨HS.out.r1⟩
      have HRd : Aside0 (Rd W A3 c3 d1) := ⟨HS.out.d1⟩
      have HRt : Aside0 (Rd W A3' c3' d1') := ⟨HT.out.d1⟩
      have HP1 := Aside0.mk (show d1 <+: d1' from HF.out.pre 1 (by omega))
      have hp2 := HF.out.post 1 (by omega)
      clear y0 y2 z0 z2
      by_cases hf : fl = 1
      · subst hf
        by_cases hk1 : kd = 1 ∨ kd = 2
        · have HP2 := Aside0.mk (show d1' <+: r1 ++ OM.hand ⟨kd, ot, 1, ma, mb, data⟩ by have h_ := hp2; unfold OM.apd at h_; rw [if_pos ⟨rfl, hk1⟩] at h_; exact h_)
          have HLA := Aside0.mk (show r1.length + (OM.hand ⟨kd, ot, 1, ma, mb, data⟩).length ≤ 16777216 from HF.out.fits 1 (by omega) rfl hk1)
          clear hp2
          rcases hk1 with rfl | rfl
          · obtain ⟨al, hal⟩ : ∃ al, al = (r1 ++ OM.hand ⟨1, ot, 1, ma, mb, data⟩) := ⟨_, rfl⟩
            rw [← hal] at HP2
            have HAL := Aside0.mk hal
            clear hal
            go_upto_region 8 with fail
            go_cut [8] (fun v wx => ∃ (A9 : Option Addr) (c9 : Nat), v = .slice A9 al.length c9 ∧ Aside0 (Rd wx A9 c9 al) ∧ Aside0 (Bx W wx ⟨1, ot, 1, ma, mb, data⟩ A c ⟨r0, r1, d0, d1, dn⟩ ⟨r0', r1', d0', d1', dn'⟩ ⟨A0, c0, A1, c1, A2, c2, A3, c3⟩ ⟨A0', c0', A1', c1', A2', c2', A3', c3'⟩))
            case first =>
              go_region_held3 (fun w' => w'.cell? ⟨W.heap.size, 0, none⟩ = some (.int .i64 1) ∧ w'.cell? ⟨W.heap.size, 1, none⟩ = some (.bool ot) ∧ w'.cell? ⟨W.heap.size, 2, none⟩ = some (.int .i64 1) ∧ w'.cell? ⟨W.heap.size, 3, none⟩ = some (.int .i64 ma) ∧ w'.cell? ⟨W.heap.size, 4, none⟩ = some (.int .i64 mb) ∧ w'.cell? ⟨W.heap.size, 5, none⟩ = some (.slice A data.length c)) (first | exact Bx.ops (HB.out.next HBN.out) | exact Bx.ops HB.out | exact Bx.ops (HB.out.next HU15.out) | exact Bx.ops (HB.out.next HU43.out) | exact Bx.ops (HB.out.next HBN.out)) (first
            | (go_at_call 15; (with_reducible refine (lcopied_calls ?C15 HRr.out.cap (by have := HRr.out.len; omega)).mono ?_); (case C15 => exact Kd.C_below HRr.out.C (by repeat (first | exact HB.out.below | exact HX43.out | exact HX15.out | refine below_drew ?_))); rintro e w3 ⟨v, rfl, hf⟩; obtain ⟨A5, c5, rfl, _⟩ := Kd.R_slice_len hf.1; have HF15 : Aside0 (Fresh wr r1 _ w3) := ⟨hf.lower (by repeat (first | exact Below.refl _ _ | exact HU43.out | exact HU15.out | refine below_drew ?_))⟩; have HU15 : Aside0 (Below wr.heap.size wr w3) := ⟨HF15.out.2⟩; have HX15 : Aside0 (Below W.heap.size W w3) := ⟨HB.out.below.trans (HU15.out.mono HB.out.below.size)⟩; (try (have HF43 := Aside0.mk (HF43.out.later (Below.trans (by repeat (first | exact Below.refl _ _ | refine below_drew ?_)) hf.2)))); clear hf)
            | (go_at_call 43; (with_reducible refine (hand_calls (m := ⟨1, ot, 1, ma, mb, data⟩) ?C43 HMC.out HML.out).mono ?_); (case C43 => exact Kd.C_below HM.out (by repeat (first | exact HB.out.below | exact HX43.out | exact HX15.out | refine below_drew ?_))); rintro e w3 ⟨v, rfl, hf⟩; obtain ⟨A6, c6, rfl, _⟩ := Kd.R_slice_len hf.1; have HF43 : Aside0 (Fresh wr (OM.hand ⟨1, ot, 1, ma, mb, data⟩) _ w3) := ⟨hf.lower (by repeat (first | exact Below.refl _ _ | exact HU43.out | exact HU15.out | refine below_drew ?_))⟩; have HU43 : Aside0 (Below wr.heap.size wr w3) := ⟨HF43.out.2⟩; have HX43 : Aside0 (Below W.heap.size W w3) := ⟨HB.out.below.trans (HU43.out.mono HB.out.below.size)⟩; (try (have HF15 := Aside0.mk (HF15.out.later (Below.trans (by repeat (first | exact Below.refl _ _ | refine below_drew ?_)) hf.2)))); clear hf)
            | (refine Kd.R_append_rows_step By (w0 := wr) wr.heap.size (by rfl) (.tmp 40) (.tmp 42) 28 5 (.int .u8 0) 1 (by rfl) Try.underlying28 G.info5 rfl (by decide) (by decide) (.slice A5 r1.length c5) r1 (OM.hand ⟨1, ot, 1, ma, mb, data⟩) A6 (OM.hand ⟨1, ot, 1, ma, mb, data⟩).length c6 (fun _ => True) (fun _ => False) (by rfl) (by rfl) ?aO ?aR (fun _ _ hk => hk) (fun _ hk => hk.elim) (fun _ _ => trivial) ?aB ?aS ?aL ?_; (case aO => exact (HF15.out.later (by repeat (first | exact Below.refl _ _ | refine below_drew ?_))).1); (case aR => exact (HF43.out.later (by repeat (first | exact Below.refl _ _ | refine below_drew ?_))).reads); (case aB => exact (HF15.out.later (by repeat (first | exact Below.refl _ _ | refine below_drew ?_))).2); (case aS => exact HF15.out.2.size); (case aL => rw [Nat.mul_one]; exact Nat.le_trans HLA.out (by decide)); intro u1 w5 hr1 hb1 hg1 hat1; obtain ⟨A9, n9, rfl, hn9⟩ := Kd.R_slice_len hr1; have HRN := Aside0.mk hr1; have HBN := Aside0.mk hb1; have HNN := Aside0.mk hn9; clear hr1 hb1 hg1 hat1 hn9) | fail)
              all_goals
                go_wp2_with fail
                go_meet
                exact ⟨_, _, by rw [HAL.out, List.length_append], ⟨by rw [HAL.out]; exact ⟨(Kd.R_reads' HRN.out).2.2, HNN.out, by rw [List.length_append]; exact HLA.out⟩⟩, ⟨HB.out.next HBN.out⟩⟩
            case rest =>
              obtain ⟨A9, c9, rfl, HR9, HBX⟩ := hcut
              clear x0 x1 x2 x3 x4 x5 y1 y3 y4 z1 z3 z4 HXX hf0 hf1 hf2
              obtain ⟨y0, y1, y2, y3, y4⟩ := sd_cells HBX.out.was
              obtain ⟨z0, z1, z2, z3, z4⟩ := sd_cells HBX.out.is
              dsimp only at y0 y1 y2 y3 y4 z0 z1 z2 z3 z4
              clear y0 y1 y2 z0 z1 z2
              have HCd := Aside0.mk (Kd.C_below HRd.out.C HBX.out.below)
              have HCt := Aside0.mk (Kd.C_below HRt.out.C HBX.out.below)
              have HCr := Aside0.mk HR9.out.C
              go_wp2_with fail
              go_quiet ((first | (go_at_call 45; first | exact Calls.quiet_of (begins_q (Kd.C_drewN HCd.out _) HRd.out.cap (Kd.C_drewN HCt.out _) HRt.out.cap HP1.out (by have := HRt.out.len; omega)) | exact Calls.quiet_of (begins_q (Kd.C_drewN HCt.out _) HRt.out.cap (Kd.C_drewN HCr.out _) HR9.out.cap HP2.out (by have := HR9.out.len; omega)))))
              go_wp2
              go_roundw
              case rel => exact ⟨2, by omega, by first | rfl | go_num, ⟨Bx.next HBX.out (by repeat (first | exact Below.refl _ _ | refine pw_below_drewN ?_ _))⟩⟩
              case measure => simp [intOf]
          · obtain ⟨al, hal⟩ : ∃ al, al = (r1 ++ OM.hand ⟨2, ot, 1, ma, mb, data⟩) := ⟨_, rfl⟩
            rw [← hal] at HP2
            have HAL := Aside0.mk hal
            clear hal
            go_upto_region 8 with fail
            go_cut [8] (fun v wx => ∃ (A9 : Option Addr) (c9 : Nat), v = .slice A9 al.length c9 ∧ Aside0 (Rd wx A9 c9 al) ∧ Aside0 (Bx W wx ⟨2, ot, 1, ma, mb, data⟩ A c ⟨r0, r1, d0, d1, dn⟩ ⟨r0', r1', d0', d1', dn'⟩ ⟨A0, c0, A1, c1, A2, c2, A3, c3⟩ ⟨A0', c0', A1', c1', A2', c2', A3', c3'⟩))
            case first =>
              go_region_held3 (fun w' => w'.cell? ⟨W.heap.size, 0, none⟩ = some (.int .i64 2) ∧ w'.cell? ⟨W.heap.size, 1, none⟩ = some (.bool ot) ∧ w'.cell? ⟨W.heap.size, 2, none⟩ = some (.int .i64 1) ∧ w'.cell? ⟨W.heap.size, 3, none⟩ = some (.int .i64 ma) ∧ w'.cell? ⟨W.heap.size, 4, none⟩ = some (.int .i64 mb) ∧ w'.cell? ⟨W.heap.size, 5, none⟩ = some (.slice A data.length c)) (first | exact Bx.ops (HB.out.next HBN.out) | exact Bx.ops HB.out | exact Bx.ops (HB.out.next HU15.out) | exact Bx.ops (HB.out.next HU43.out) | exact Bx.ops (HB.out.next HBN.out)) (first
            | (go_at_call 15; (with_reducible refine (lcopied_calls ?C15 HRr.out.cap (by have := HRr.out.len; omega)).mono ?_); (case C15 => exact Kd.C_below HRr.out.C (by repeat (first | exact HB.out.below | exact HX43.out | exact HX15.out | refine below_drew ?_))); rintro e w3 ⟨v, rfl, hf⟩; obtain ⟨A5, c5, rfl, _⟩ := Kd.R_slice_len hf.1; have HF15 : Aside0 (Fresh wr r1 _ w3) := ⟨hf.lower (by repeat (first | exact Below.refl _ _ | exact HU43.out | exact HU15.out | refine below_drew ?_))⟩; have HU15 : Aside0 (Below wr.heap.size wr w3) := ⟨HF15.out.2⟩; have HX15 : Aside0 (Below W.heap.size W w3) := ⟨HB.out.below.trans (HU15.out.mono HB.out.below.size)⟩; (try (have HF43 := Aside0.mk (HF43.out.later (Below.trans (by repeat (first | exact Below.refl _ _ | refine below_drew ?_)) hf.2)))); clear hf)
            | (go_at_call 43; (with_reducible refine (hand_calls (m := ⟨2, ot, 1, ma, mb, data⟩) ?C43 HMC.out HML.out).mono ?_); (case C43 => exact Kd.C_below HM.out (by repeat (first | exact HB.out.below | exact HX43.out | exact HX15.out | refine below_drew ?_))); rintro e w3 ⟨v, rfl, hf⟩; obtain ⟨A6, c6, rfl, _⟩ := Kd.R_slice_len hf.1; have HF43 : Aside0 (Fresh wr (OM.hand ⟨2, ot, 1, ma, mb, data⟩) _ w3) := ⟨hf.lower (by repeat (first | exact Below.refl _ _ | exact HU43.out | exact HU15.out | refine below_drew ?_))⟩; have HU43 : Aside0 (Below wr.heap.size wr w3) := ⟨HF43.out.2⟩; have HX43 : Aside0 (Below W.heap.size W w3) := ⟨HB.out.below.trans (HU43.out.mono HB.out.below.size)⟩; (try (have HF15 := Aside0.mk (HF15.out.later (Below.trans (by repeat (first | exact Below.refl _ _ | refine below_drew ?_)) hf.2)))); clear hf)
            | (refine Kd.R_append_rows_step By (w0 := wr) wr.heap.size (by rfl) (.tmp 40) (.tmp 42) 28 5 (.int .u8 0) 1 (by rfl) Try.underlying28 G.info5 rfl (by decide) (by decide) (.slice A5 r1.length c5) r1 (OM.hand ⟨2, ot, 1, ma, mb, data⟩) A6 (OM.hand ⟨2, ot, 1, ma, mb, data⟩).length c6 (fun _ => True) (fun _ => False) (by rfl) (by rfl) ?aO ?aR (fun _ _ hk => hk) (fun _ hk => hk.elim) (fun _ _ => trivial) ?aB ?aS ?aL ?_; (case aO => exact (HF15.out.later (by repeat (first | exact Below.refl _ _ | refine below_drew ?_))).1); (case aR => exact (HF43.out.later (by repeat (first | exact Below.refl _ _ | refine below_drew ?_))).reads); (case aB => exact (HF15.out.later (by repeat (first | exact Below.refl _ _ | refine below_drew ?_))).2); (case aS => exact HF15.out.2.size); (case aL => rw [Nat.mul_one]; exact Nat.le_trans HLA.out (by decide)); intro u1 w5 hr1 hb1 hg1 hat1; obtain ⟨A9, n9, rfl, hn9⟩ := Kd.R_slice_len hr1; have HRN := Aside0.mk hr1; have HBN := Aside0.mk hb1; have HNN := Aside0.mk hn9; clear hr1 hb1 hg1 hat1 hn9) | fail)
              all_goals
                go_wp2_with fail
                go_meet
                exact ⟨_, _, by rw [HAL.out, List.length_append], ⟨by rw [HAL.out]; exact ⟨(Kd.R_reads' HRN.out).2.2, HNN.out, by rw [List.length_append]; exact HLA.out⟩⟩, ⟨HB.out.next HBN.out⟩⟩
            case rest =>
              obtain ⟨A9, c9, rfl, HR9, HBX⟩ := hcut
              clear x0 x1 x2 x3 x4 x5 y1 y3 y4 z1 z3 z4 HXX hf0 hf1 hf2
              obtain ⟨y0, y1, y2, y3, y4⟩ := sd_cells HBX.out.was
              obtain ⟨z0, z1, z2, z3, z4⟩ := sd_cells HBX.out.is
              dsimp only at y0 y1 y2 y3 y4 z0 z1 z2 z3 z4
              clear y0 y1 y2 z0 z1 z2
              have HCd := Aside0.mk (Kd.C_below HRd.out.C HBX.out.below)
              have HCt := Aside0.mk (Kd.C_below HRt.out.C HBX.out.below)
              have HCr := Aside0.mk HR9.out.C
              go_wp2_with fail
              go_quiet ((first | (go_at_call 45; first | exact Calls.quiet_of (begins_q (Kd.C_drewN HCd.out _) HRd.out.cap (Kd.C_drewN HCt.out _) HRt.out.cap HP1.out (by have := HRt.out.len; omega)) | exact Calls.quiet_of (begins_q (Kd.C_drewN HCt.out _) HRt.out.cap (Kd.C_drewN HCr.out _) HR9.out.cap HP2.out (by have := HR9.out.len; omega)))))
              go_wp2
              go_roundw
              case rel => exact ⟨2, by omega, by first | rfl | go_num, ⟨Bx.next HBX.out (by repeat (first | exact Below.refl _ _ | refine pw_below_drewN ?_ _))⟩⟩
              case measure => simp [intOf]
        · have k1 : (kd == (1 : Int)) = false := by simp; omega
          have k2 : (kd == (2 : Int)) = false := by simp; omega
          have HP2 := Aside0.mk (show d1' <+: r1 by have h_ := hp2; unfold OM.apd at h_; rw [if_neg (fun h_ => hk1 h_.2)] at h_; exact h_)
          have HCd := Aside0.mk (Kd.C_below HRd.out.C HB.out.below)
          have HCt := Aside0.mk (Kd.C_below HRt.out.C HB.out.below)
          have HCr := Aside0.mk (Kd.C_below HRr.out.C HB.out.below)
          clear hk1 hp2
          go_wp2_with fail
          go_quiet ((first | (go_at_call 45; first | exact Calls.quiet_of (begins_q (Kd.C_drewN HCd.out _) HRd.out.cap (Kd.C_drewN HCt.out _) HRt.out.cap HP1.out (by have := HRt.out.len; omega)) | exact Calls.quiet_of (begins_q (Kd.C_drewN HCt.out _) HRt.out.cap (Kd.C_drewN HCr.out _) HRr.out.cap HP2.out (by have := HRr.out.len; omega)))))
          go_wp2
          go_roundw
          case rel => exact ⟨2, by omega, by first | rfl | go_num, ⟨Bx.next HB.out (by repeat (first | exact Below.refl _ _ | refine pw_below_drewN ?_ _))⟩⟩
          case measure => simp [intOf]
      · have k1 : ((1 : Int) == fl) = false := by simp; omega
        have HP2 := Aside0.mk (show d1' <+: r1 by have h_ := hp2; unfold OM.apd at h_; rw [if_neg (fun h_ => hf h_.1.symm)] at h_; exact h_)
        have HCd := Aside0.mk (Kd.C_below HRd.out.C HB.out.below)
        have HCt := Aside0.mk (Kd.C_below HRt.out.C HB.out.below)
        have HCr := Aside0.mk (Kd.C_below HRr.out.C HB.out.below)
        clear hf hp2
        go_wp2_with fail
        go_quiet ((first | (go_at_call 45; first | exact Calls.quiet_of (begins_q (Kd.C_drewN HCd.out _) HRd.out.cap (Kd.C_drewN HCt.out _) HRt.out.cap HP1.out (by have := HRt.out.len; omega)) | exact Calls.quiet_of (begins_q (Kd.C_drewN HCt.out _) HRt.out.cap (Kd.C_drewN HCr.out _) HRr.out.cap HP2.out (by have := HRr.out.len; omega)))))
        go_wp2
        go_roundw
        case rel => exact ⟨2, by omega, by first | rfl | go_num, ⟨Bx.next HB.out (by repeat (first | exact Below.refl _ _ | refine pw_below_drewN ?_ _))⟩⟩
        case measure => simp [intOf]
    · go_wp2_with fail
      go_ret
      exact ⟨rfl, HB.out.below⟩
end
end Go.Proofs.Yticokogggepfoaa.D
