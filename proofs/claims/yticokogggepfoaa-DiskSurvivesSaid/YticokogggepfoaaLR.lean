/- wrote: a write that answers OK leaves just its own change. No condition but that it is so. -/
import Derived.Test.YticokogggepfoaaLQ
import Derived.Deep.DrawnRows
namespace Go.Proofs.Yticokogggepfoaa.D
open Go.RowKit Go.Proofs.YticokogggepfoaaW.PrintWords Go.Proofs.YticokogggepfoaaW.PrintLast Go.Proofs.YticokogggepfoaaW.PrintMore Go.Proofs.Yticokogggepfoaa.G
attribute [local go_sem] max2_int min2_int max_two min_two max_three min_three max_four min_four
set_option linter.unusedVariables false
set_option linter.unusedSimpArgs false
set_option maxRecDepth 100000
attribute [local go_sem ↓] Go.wp_at_zero Go.wp_at_succ
section
variable {W : World} {m : OM} {A : Option Addr} {c : Nat} {s t : SD} {a b : SL}
set_option maxHeartbeats 2000000 in
theorem wrote_calls (hF : Wrote m s t) (hk : 1 ≤ m.kd ∧ m.kd ≤ 4) (hm : Kd.C By W A m.data.length m.data) (hc : m.data.length ≤ c) (hl : m.data.length < 140737488355328) (hs : SC W s a) (ht : SC W t b) :
    Calls Try.prog 37 #[.agg (OV m A c), .agg (SDV s a), .agg (SDV t b)] W fun e w' => e = .returned (.bool true) ∧ Below W.heap.size W w' := by
  have HF := Aside0.mk hF
  have HM := Aside0.mk hm
  have HMC := Aside0.mk hc
  have HML := Aside0.mk hl
  have HS := Aside0.mk hs
  have HT := Aside0.mk ht
  obtain ⟨kd, ot, fl, ma, mb, data⟩ := m
  obtain ⟨r0, r1, d0, d1, dn⟩ := s
  obtain ⟨r0', r1', d0', d1', dn'⟩ := t
  obtain ⟨A0, c0, A1, c1, A2, c2, A3, c3⟩ := a
  obtain ⟨A0', c0', A1', c1', A2', c2', A3', c3'⟩ := b
  have HK := Aside0.mk (show 1 ≤ kd ∧ kd ≤ 4 from hk)
  have hu45 := Try.underlying45
  have hu41 := Try.underlying41
  clear hF hm hc hl hs ht hk
  go_enter Try.func37, Try.ntmps37
  go_wp2_with fail
  go_loopw [7] (fun i wr => ∃ k : Nat, k ≤ 2 ∧ i = .int .i64 (k : Int) ∧ Aside0 (Bx W wr ⟨kd, ot, fl, ma, mb, data⟩ A c ⟨r0, r1, d0, d1, dn⟩ ⟨r0', r1', d0', d1', dn'⟩ ⟨A0, c0, A1, c1, A2, c2, A3, c3⟩ ⟨A0', c0', A1', c1', A2', c2', A3', c3'⟩)) (fun i _ => 2 - (intOf i).toNat)
  case atStart => exact ⟨0, by omega, rfl, ⟨Bx.new⟩⟩
  case round =>
    obtain ⟨k, hk, rfl, HB⟩ := hrel
    have hxx := Bx.ops HB.out
    have HXX := Aside0.mk hxx
    clear hxx
    obtain ⟨x0, x1, x2, x3, x4, x5⟩ := HXX.out
    obtain ⟨y0, y1, y2, y3, y4⟩ := sd_cells HB.out.was
    obtain ⟨z0, z1, z2, z3, z4⟩ := sd_cells HB.out.is
    dsimp only at x0 x1 x2 x3 x4 x5 y0 y1 y2 y3 y4 z0 z1 z2 z3 z4
    have hf0 := blk_frozen HB.out.op
    have hf1 := blk_frozen HB.out.was
    have hf2 := blk_frozen HB.out.is
    rcases (show k = 0 ∨ k = 1 ∨ k = 2 by omega) with rfl | rfl | rfl
    · have HRr : Aside0 (Rd W A0 c0 r0) := ⟨HS.out.r0⟩
      have HRd : Aside0 (Rd W A2 c2 d0) := ⟨HS.out.d0⟩
      have HRrr : Aside0 (Rd W A0' c0' r0') := ⟨HT.out.r0⟩
      have HRt : Aside0 (Rd W A2' c2' d0') := ⟨HT.out.d0⟩
      have HCd := Aside0.mk (Kd.C_below HRd.out.C HB.out.below)
      have HCt := Aside0.mk (Kd.C_below HRt.out.C HB.out.below)
      have HCrr := Aside0.mk (Kd.C_below HRr.out.C HB.out.below)
      have HCr := Aside0.mk (Kd.C_below HRrr.out.C HB.out.below)
      have her : r0' = OM.all ⟨kd, ot, fl, ma, mb, data⟩ 0 r0 := HF.out.r 0 (by omega)
      have hed : d0' = OM.sure ⟨kd, ot, fl, ma, mb, data⟩ 0 r0 d0 := HF.out.d 0 (by omega)
      clear y1 y3 z1 z3
      by_cases hf : fl = 0
      · subst hf
        rcases (show kd = 1 ∨ kd = 2 ∨ kd = 3 ∨ kd = 4 by have := HK.out; omega) with rfl | rfl | rfl | rfl
        · have HLA := Aside0.mk (show r0.length + (OM.hand ⟨1, ot, 0, ma, mb, data⟩).length ≤ 16777216 from HF.out.fits 0 (by omega) rfl (by simp))
          obtain ⟨al, hal⟩ : ∃ al, al = (r0 ++ OM.hand ⟨1, ot, 0, ma, mb, data⟩) := ⟨_, rfl⟩
          have HE1 := Aside0.mk (show r0' = al by rw [hal]; exact her.trans (OM.all_app rfl (by simp)))
          have HE2 := Aside0.mk (show d0' = d0 from hed.trans (OM.sure_app (by simp)))
          have HAL := Aside0.mk hal
          clear hal her hed
          go_upto_if 25 with fail
          go_cut [8, 9] (fun v v9 wx => v9 = .slice A2 d0.length c2 ∧ ∃ (A9 : Option Addr) (c9 : Nat), v = .slice A9 al.length c9 ∧ Aside0 (Rd wx A9 c9 al) ∧ Aside0 (Bx W wx ⟨1, ot, 0, ma, mb, data⟩ A c ⟨r0, r1, d0, d1, dn⟩ ⟨r0', r1', d0', d1', dn'⟩ ⟨A0, c0, A1, c1, A2, c2, A3, c3⟩ ⟨A0', c0', A1', c1', A2', c2', A3', c3'⟩))
          case first =>
            go_wp2_with fail
            go_region_held3 (fun w' => w'.cell? ⟨W.heap.size, 0, none⟩ = some (.int .i64 1) ∧ w'.cell? ⟨W.heap.size, 1, none⟩ = some (.bool ot) ∧ w'.cell? ⟨W.heap.size, 2, none⟩ = some (.int .i64 0) ∧ w'.cell? ⟨W.heap.size, 3, none⟩ = some (.int .i64 ma) ∧ w'.cell? ⟨W.heap.size, 4, none⟩ = some (.int .i64 mb) ∧ w'.cell? ⟨W.heap.size, 5, none⟩ = some (.slice A data.length c)) (first | exact Bx.ops (HB.out.next HBN.out) | exact Bx.ops HB.out | exact Bx.ops (HB.out.next HU15.out) | exact Bx.ops (HB.out.next HU43.out) | exact Bx.ops (HB.out.next HBN.out)) (first
                      | (go_at_call 15; (with_reducible refine (lcopied_calls ?C15 HRr.out.cap (by have := HRr.out.len; omega)).mono ?_); (case C15 => exact Kd.C_below HRr.out.C (by repeat (first | exact HB.out.below | exact HX43.out | exact HX15.out | refine below_drew ?_))); rintro e w3 ⟨v, rfl, hf⟩; obtain ⟨A5, c5, rfl, _⟩ := Kd.R_slice_len hf.1; have HF15 : Aside0 (Fresh wr r0 _ w3) := ⟨hf.lower (by repeat (first | exact Below.refl _ _ | exact HU43.out | exact HU15.out | refine below_drew ?_))⟩; have HU15 : Aside0 (Below wr.heap.size wr w3) := ⟨HF15.out.2⟩; have HX15 : Aside0 (Below W.heap.size W w3) := ⟨HB.out.below.trans (HU15.out.mono HB.out.below.size)⟩; (try (have HF43 := Aside0.mk (HF43.out.later (Below.trans (by repeat (first | exact Below.refl _ _ | refine below_drew ?_)) hf.2)))); clear hf)
                      | (go_at_call 43; (with_reducible refine (hand_calls (m := ⟨1, ot, 0, ma, mb, data⟩) ?C43 HMC.out HML.out).mono ?_); (case C43 => exact Kd.C_below HM.out (by repeat (first | exact HB.out.below | exact HX43.out | exact HX15.out | refine below_drew ?_))); rintro e w3 ⟨v, rfl, hf⟩; obtain ⟨A6, c6, rfl, _⟩ := Kd.R_slice_len hf.1; have HF43 : Aside0 (Fresh wr (OM.hand ⟨1, ot, 0, ma, mb, data⟩) _ w3) := ⟨hf.lower (by repeat (first | exact Below.refl _ _ | exact HU43.out | exact HU15.out | refine below_drew ?_))⟩; have HU43 : Aside0 (Below wr.heap.size wr w3) := ⟨HF43.out.2⟩; have HX43 : Aside0 (Below W.heap.size W w3) := ⟨HB.out.below.trans (HU43.out.mono HB.out.below.size)⟩; (try (have HF15 := Aside0.mk (HF15.out.later (Below.trans (by repeat (first | exact Below.refl _ _ | refine below_drew ?_)) hf.2)))); clear hf)
                      | (refine Kd.R_append_rows_step By (w0 := wr) wr.heap.size (by rfl) (.tmp 32) (.tmp 34) 28 5 (.int .u8 0) 1 (by rfl) Try.underlying28 G.info5 rfl (by decide) (by decide) (.slice A5 r0.length c5) r0 (OM.hand ⟨1, ot, 0, ma, mb, data⟩) A6 (OM.hand ⟨1, ot, 0, ma, mb, data⟩).length c6 (fun _ => True) (fun _ => False) (by rfl) (by rfl) ?aO ?aR (fun _ _ hk => hk) (fun _ hk => hk.elim) (fun _ _ => trivial) ?aB ?aS ?aL ?_; (case aO => exact (HF15.out.later (by repeat (first | exact Below.refl _ _ | refine below_drew ?_))).1); (case aR => exact (HF43.out.later (by repeat (first | exact Below.refl _ _ | refine below_drew ?_))).reads); (case aB => exact (HF15.out.later (by repeat (first | exact Below.refl _ _ | refine below_drew ?_))).2); (case aS => exact HF15.out.2.size); (case aL => rw [Nat.mul_one]; exact Nat.le_trans HLA.out (by decide)); intro u1 w5 hr1 hb1 hg1 hat1; obtain ⟨A9, n9, rfl, hn9⟩ := Kd.R_slice_len hr1; have HRN := Aside0.mk hr1; have HBN := Aside0.mk hb1; have HNN := Aside0.mk hn9; clear hr1 hb1 hg1 hat1 hn9) | fail)
            all_goals
              go_wp2_with fail
              go_meet
              exact ⟨rfl, _, _, by rw [HAL.out, List.length_append], ⟨by rw [HAL.out]; exact ⟨(Kd.R_reads' HRN.out).2.2, HNN.out, by rw [List.length_append]; exact HLA.out⟩⟩, ⟨HB.out.next HBN.out⟩⟩
          case rest =>
            obtain ⟨rfl, A9, c9, rfl, HR9, HBX⟩ := hcut
            clear x0 x1 x2 x3 x4 x5 y0 y2 y4 z0 z2 z4 HXX hf0 hf1 hf2 HCd HCt HCr HCrr
            obtain ⟨y0, y1, y2, y3, y4⟩ := sd_cells HBX.out.was
            obtain ⟨z0, z1, z2, z3, z4⟩ := sd_cells HBX.out.is
            dsimp only at y0 y1 y2 y3 y4 z0 z1 z2 z3 z4
            clear y0 y1 y3 z1 z3
            have HCt := Aside0.mk (Kd.C_below HRt.out.C HBX.out.below)
            have HCr := Aside0.mk (Kd.C_below HRrr.out.C HBX.out.below)
            have HC1 := Aside0.mk HR9.out.C
            have HC2 := Aside0.mk (Kd.C_below HRd.out.C HBX.out.below)
            go_wp2_with fail
            refine (equal_n HE1.out rfl rfl HCr.out HRrr.out.cap HC1.out HR9.out.cap HRrr.out.len).mono ?_
            rintro e w7 ⟨rfl, n7, rfl⟩
            go_wp2_with fail
            refine (equal_n HE2.out rfl rfl (Kd.C_drewN HCt.out _) HRt.out.cap (Kd.C_drewN HC2.out _) HRd.out.cap HRt.out.len).mono ?_
            rintro e w8 ⟨rfl, n8, rfl⟩
            go_wp2
            go_roundw
            case rel => exact ⟨1, by omega, by first | rfl | go_num, ⟨Bx.next HBX.out (by repeat (first | exact Below.refl _ _ | refine pw_below_drewN ?_ _))⟩⟩
            case measure => simp [intOf]
        · have HLA := Aside0.mk (show r0.length + (OM.hand ⟨2, ot, 0, ma, mb, data⟩).length ≤ 16777216 from HF.out.fits 0 (by omega) rfl (by simp))
          obtain ⟨al, hal⟩ : ∃ al, al = (r0 ++ OM.hand ⟨2, ot, 0, ma, mb, data⟩) := ⟨_, rfl⟩
          have HE1 := Aside0.mk (show r0' = al by rw [hal]; exact her.trans (OM.all_app rfl (by simp)))
          have HE2 := Aside0.mk (show d0' = d0 from hed.trans (OM.sure_app (by simp)))
          have HAL := Aside0.mk hal
          clear hal her hed
          go_upto_if 25 with fail
          go_cut [8, 9] (fun v v9 wx => v9 = .slice A2 d0.length c2 ∧ ∃ (A9 : Option Addr) (c9 : Nat), v = .slice A9 al.length c9 ∧ Aside0 (Rd wx A9 c9 al) ∧ Aside0 (Bx W wx ⟨2, ot, 0, ma, mb, data⟩ A c ⟨r0, r1, d0, d1, dn⟩ ⟨r0', r1', d0', d1', dn'⟩ ⟨A0, c0, A1, c1, A2, c2, A3, c3⟩ ⟨A0', c0', A1', c1', A2', c2', A3', c3'⟩))
          case first =>
            go_wp2_with fail
            go_region_held3 (fun w' => w'.cell? ⟨W.heap.size, 0, none⟩ = some (.int .i64 2) ∧ w'.cell? ⟨W.heap.size, 1, none⟩ = some (.bool ot) ∧ w'.cell? ⟨W.heap.size, 2, none⟩ = some (.int .i64 0) ∧ w'.cell? ⟨W.heap.size, 3, none⟩ = some (.int .i64 ma) ∧ w'.cell? ⟨W.heap.size, 4, none⟩ = some (.int .i64 mb) ∧ w'.cell? ⟨W.heap.size, 5, none⟩ = some (.slice A data.length c)) (first | exact Bx.ops (HB.out.next HBN.out) | exact Bx.ops HB.out | exact Bx.ops (HB.out.next HU15.out) | exact Bx.ops (HB.out.next HU43.out) | exact Bx.ops (HB.out.next HBN.out)) (first
                      | (go_at_call 15; (with_reducible refine (lcopied_calls ?C15 HRr.out.cap (by have := HRr.out.len; omega)).mono ?_); (case C15 => exact Kd.C_below HRr.out.C (by repeat (first | exact HB.out.below | exact HX43.out | exact HX15.out | refine below_drew ?_))); rintro e w3 ⟨v, rfl, hf⟩; obtain ⟨A5, c5, rfl, _⟩ := Kd.R_slice_len hf.1; have HF15 : Aside0 (Fresh wr r0 _ w3) := ⟨hf.lower (by repeat (first | exact Below.refl _ _ | exact HU43.out | exact HU15.out | refine below_drew ?_))⟩; have HU15 : Aside0 (Below wr.heap.size wr w3) := ⟨HF15.out.2⟩; have HX15 : Aside0 (Below W.heap.size W w3) := ⟨HB.out.below.trans (HU15.out.mono HB.out.below.size)⟩; (try (have HF43 := Aside0.mk (HF43.out.later (Below.trans (by repeat (first | exact Below.refl _ _ | refine below_drew ?_)) hf.2)))); clear hf)
                      | (go_at_call 43; (with_reducible refine (hand_calls (m := ⟨2, ot, 0, ma, mb, data⟩) ?C43 HMC.out HML.out).mono ?_); (case C43 => exact Kd.C_below HM.out (by repeat (first | exact HB.out.below | exact HX43.out | exact HX15.out | refine below_drew ?_))); rintro e w3 ⟨v, rfl, hf⟩; obtain ⟨A6, c6, rfl, _⟩ := Kd.R_slice_len hf.1; have HF43 : Aside0 (Fresh wr (OM.hand ⟨2, ot, 0, ma, mb, data⟩) _ w3) := ⟨hf.lower (by repeat (first | exact Below.refl _ _ | exact HU43.out | exact HU15.out | refine below_drew ?_))⟩; have HU43 : Aside0 (Below wr.heap.size wr w3) := ⟨HF43.out.2⟩; have HX43 : Aside0 (Below W.heap.size W w3) := ⟨HB.out.below.trans (HU43.out.mono HB.out.below.size)⟩; (try (have HF15 := Aside0.mk (HF15.out.later (Below.trans (by repeat (first | exact Below.refl _ _ | refine below_drew ?_)) hf.2)))); clear hf)
                      | (refine Kd.R_append_rows_step By (w0 := wr) wr.heap.size (by rfl) (.tmp 32) (.tmp 34) 28 5 (.int .u8 0) 1 (by rfl) Try.underlying28 G.info5 rfl (by decide) (by decide) (.slice A5 r0.length c5) r0 (OM.hand ⟨2, ot, 0, ma, mb, data⟩) A6 (OM.hand ⟨2, ot, 0, ma, mb, data⟩).length c6 (fun _ => True) (fun _ => False) (by rfl) (by rfl) ?aO ?aR (fun _ _ hk => hk) (fun _ hk => hk.elim) (fun _ _ => trivial) ?aB ?aS ?aL ?_; (case aO => exact (HF15.out.later (by repeat (first | exact Below.refl _ _ | refine below_drew ?_))).1); (case aR => exact (HF43.out.later (by repeat (first | exact Below.refl _ _ | refine below_drew ?_))).reads); (case aB => exact (HF15.out.later (by repeat (first | exact Below.refl _ _ | refine below_drew ?_))).2); (case aS => exact HF15.out.2.size); (case aL => rw [Nat.mul_one]; exact Nat.le_trans HLA.out (by decide)); intro u1 w5 hr1 hb1 hg1 hat1; obtain ⟨A9, n9, rfl, hn9⟩ := Kd.R_slice_len hr1; have HRN := Aside0.mk hr1; have HBN := Aside0.mk hb1; have HNN := Aside0.mk hn9; clear hr1 hb1 hg1 hat1 hn9) | fail)
            all_goals
              go_wp2_with fail
              go_meet
              exact ⟨rfl, _, _, by rw [HAL.out, List.length_append], ⟨by rw [HAL.out]; exact ⟨(Kd.R_reads' HRN.out).2.2, HNN.out, by rw [List.length_append]; exact HLA.out⟩⟩, ⟨HB.out.next HBN.out⟩⟩
          case rest =>
            obtain ⟨rfl, A9, c9, rfl, HR9, HBX⟩ := hcut
            clear x0 x1 x2 x3 x4 x5 y0 y2 y4 z0 z2 z4 HXX hf0 hf1 hf2 HCd HCt HCr HCrr
            obtain ⟨y0, y1, y2, y3, y4⟩ := sd_cells HBX.out.was
            obtain ⟨z0, z1, z2, z3, z4⟩ := sd_cells HBX.out.is
            dsimp only at y0 y1 y2 y3 y4 z0 z1 z2 z3 z4
            clear y0 y1 y3 z1 z3
            have HCt := Aside0.mk (Kd.C_below HRt.out.C HBX.out.below)
            have HCr := Aside0.mk (Kd.C_below HRrr.out.C HBX.out.below)
            have HC1 := Aside0.mk HR9.out.C
            have HC2 := Aside0.mk (Kd.C_below HRd.out.C HBX.out.below)
            go_wp2_with fail
            refine (equal_n HE1.out rfl rfl HCr.out HRrr.out.cap HC1.out HR9.out.cap HRrr.out.len).mono ?_
            rintro e w7 ⟨rfl, n7, rfl⟩
            go_wp2_with fail
            refine (equal_n HE2.out rfl rfl (Kd.C_drewN HCt.out _) HRt.out.cap (Kd.C_drewN HC2.out _) HRd.out.cap HRt.out.len).mono ?_
            rintro e w8 ⟨rfl, n8, rfl⟩
            go_wp2
            go_roundw
            case rel => exact ⟨1, by omega, by first | rfl | go_num, ⟨Bx.next HBX.out (by repeat (first | exact Below.refl _ _ | refine pw_below_drewN ?_ _))⟩⟩
            case measure => simp [intOf]
        · have HE1 := Aside0.mk (show r0' = r0 from her.trans (OM.all_sync rfl))
          have HE2 := Aside0.mk (show d0' = r0 from hed.trans (OM.sure_sync rfl rfl))
          have HC1 := HCrr
          have HC2 := HCrr
          clear her hed
          go_wp2_with fail
          refine (equal_n HE1.out rfl rfl HCr.out HRrr.out.cap HC1.out HRr.out.cap HRrr.out.len).mono ?_
          rintro e w7 ⟨rfl, n7, rfl⟩
          go_wp2_with fail
          refine (equal_n HE2.out rfl rfl (Kd.C_drewN HCt.out _) HRt.out.cap (Kd.C_drewN HC2.out _) HRr.out.cap HRt.out.len).mono ?_
          rintro e w8 ⟨rfl, n8, rfl⟩
          go_wp2
          go_roundw
          case rel => exact ⟨1, by omega, by first | rfl | go_num, ⟨Bx.next HB.out (by repeat (first | exact Below.refl _ _ | refine pw_below_drewN ?_ _))⟩⟩
          case measure => simp [intOf]
        · have h4 : 0 ≤ ma ∧ ma ≤ (r0.length : Int) := HF.out.cut 0 (by omega) rfl rfl
          obtain ⟨q, rfl⟩ := Int.eq_ofNat_of_zero_le h4.1
          have hql : q ≤ r0.length := by have := h4.2; omega
          have HE1 := Aside0.mk (show r0' = r0.take q from her.trans (OM.all_cut rfl rfl))
          have HE2 := Aside0.mk (show d0' = r0.take q from hed.trans (OM.sure_cut rfl rfl))
          have HN := Aside0.mk (show q = (r0.take q).length by rw [List.length_take]; omega)
          have hC := Kd.C_take (m := q) HCrr.out hql
          have hC' : Kd.C By wr A0 (r0.take q).length (r0.take q) := hC
          have HC1 := Aside0.mk hC'
          have HC2 := Aside0.mk hC'
          obtain ⟨i0_, hi0_, _, _, _⟩ := info_parts G.info5
          have hcut := cut_to (P := Try.prog) 28 5 .i64 Try.underlying28 hi0_ A0 r0.length c0 (q : Int) (by omega) (by omega) HRr.out.cap
          rw [Int.toNat_natCast] at hcut
          have g1 : decide ((r0.length : Int) < (q : Int)) = false := decide_eq_false (by omega)
          have g2 : decide (r0.length < q) = false := decide_eq_false (by omega)
          have HQ := Aside0.mk (show (r0.take q).length ≤ c0 by rw [← HN.out]; have := HRr.out.cap; omega)
          clear her hed h4 hC hC' hi0_
          go_wp2_with fail
          refine (equal_n HE1.out rfl HN.out HCr.out HRrr.out.cap HC1.out HQ.out HRrr.out.len).mono ?_
          rintro e w7 ⟨rfl, n7, rfl⟩
          go_wp2_with fail
          refine (equal_n HE2.out rfl HN.out (Kd.C_drewN HCt.out _) HRt.out.cap (Kd.C_drewN HC2.out _) HQ.out HRt.out.len).mono ?_
          rintro e w8 ⟨rfl, n8, rfl⟩
          go_wp2
          go_roundw
          case rel => exact ⟨1, by omega, by first | rfl | go_num, ⟨Bx.next HB.out (by repeat (first | exact Below.refl _ _ | refine pw_below_drewN ?_ _))⟩⟩
          case measure => simp [intOf]
      · have k1 : ((0 : Int) == fl) = false := by simp; omega
        have HE1 := Aside0.mk (show r0' = r0 from her.trans (OM.all_ne (fun h_ => hf h_.symm)))
        have HE2 := Aside0.mk (show d0' = d0 from hed.trans (OM.sure_ne (fun h_ => hf h_.symm)))
        have HC1 := HCrr
        have HC2 := HCd
        clear hf her hed
        go_wp2_with fail
        refine (equal_n HE1.out rfl rfl HCr.out HRrr.out.cap HC1.out HRr.out.cap HRrr.out.len).mono ?_
        rintro e w7 ⟨rfl, n7, rfl⟩
        go_wp2_with fail
        refine (equal_n HE2.out rfl rfl (Kd.C_drewN HCt.out _) HRt.out.cap (Kd.C_drewN HC2.out _) HRd.out.cap HRt.out.len).mono ?_
        rintro e w8 ⟨rfl, n8, rfl⟩
        go_wp2
        go_roundw
        case rel => exact ⟨1, by omega, by first | rfl | go_num, ⟨Bx.next HB.out (by repeat (first | exact Below.refl _ _ | refine pw_below_drewN ?_ _))⟩⟩
        case measure => simp [intOf]
    · have HRr : Aside0 (Rd W A1 c1 r1) := ⟨HS.out.r1⟩
      have HRd : Aside0 (Rd W A3 c3 d1) := ⟨HS.out.d1⟩
      have HRrr : Aside0 (Rd W A1' c1' r1') := ⟨HT.out.r1⟩
      have HRt : Aside0 (Rd W A3' c3' d1') := ⟨HT.out.d1⟩
      have HCd := Aside0.mk (Kd.C_below HRd.out.C HB.out.below)
      have HCt := Aside0.mk (Kd.C_below HRt.out.C HB.out.below)
      have HCrr := Aside0.mk (Kd.C_below HRr.out.C HB.out.below)
      have HCr := Aside0.mk (Kd.C_below HRrr.out.C HB.out.below)
      have her : r1' = OM.all ⟨kd, ot, fl, ma, mb, data⟩ 1 r1 := HF.out.r 1 (by omega)
      have hed : d1' = OM.sure ⟨kd, ot, fl, ma, mb, data⟩ 1 r1 d1 := HF.out.d 1 (by omega)
      clear y0 y2 z0 z2
      by_cases hf : fl = 1
      · subst hf
        rcases (show kd = 1 ∨ kd = 2 ∨ kd = 3 ∨ kd = 4 by have := HK.out; omega) with rfl | rfl | rfl | rfl
        · have HLA := Aside0.mk (show r1.length + (OM.hand ⟨1, ot, 1, ma, mb, data⟩).length ≤ 16777216 from HF.out.fits 1 (by omega) rfl (by simp))
          obtain ⟨al, hal⟩ : ∃ al, al = (r1 ++ OM.hand ⟨1, ot, 1, ma, mb, data⟩) := ⟨_, rfl⟩
          have HE1 := Aside0.mk (show r1' = al by rw [hal]; exact her.trans (OM.all_app rfl (by simp)))
          have HE2 := Aside0.mk (show d1' = d1 from hed.trans (OM.sure_app (by simp)))
          have HAL := Aside0.mk hal
          clear hal her hed
          go_upto_if 25 with fail
          go_cut [8, 9] (fun v v9 wx => v9 = .slice A3 d1.length c3 ∧ ∃ (A9 : Option Addr) (c9 : Nat), v = .slice A9 al.length c9 ∧ Aside0 (Rd wx A9 c9 al) ∧ Aside0 (Bx W wx ⟨1, ot, 1, ma, mb, data⟩ A c ⟨r0, r1, d0, d1, dn⟩ ⟨r0', r1', d0', d1', dn'⟩ ⟨A0, c0, A1, c1, A2, c2, A3, c3⟩ ⟨A0', c0', A1', c1', A2', c2', A3', c3'⟩))
          case first =>
            go_wp2_with fail
            go_region_held3 (fun w' => w'.cell? ⟨W.heap.size, 0, none⟩ = some (.int .i64 1) ∧ w'.cell? ⟨W.heap.size, 1, none⟩ = some (.bool ot) ∧ w'.cell? ⟨W.heap.size, 2, none⟩ = some (.int .i64 1) ∧ w'.cell? ⟨W.heap.size, 3, none⟩ = some (.int .i64 ma) ∧ w'.cell? ⟨W.heap.size, 4, none⟩ = some (.int .i64 mb) ∧ w'.cell? ⟨W.heap.size, 5, none⟩ = some (.slice A data.length c)) (first | exact Bx.ops (HB.out.next HBN.out) | exact Bx.ops HB.out | exact Bx.ops (HB.out.next HU15.out) | exact Bx.ops (HB.out.next HU43.out) | exact Bx.ops (HB.out.next HBN.out)) (first
                      | (go_at_call 15; (with_reducible refine (lcopied_calls ?C15 HRr.out.cap (by have := HRr.out.len; omega)).mono ?_); (case C15 => exact Kd.C_below HRr.out.C (by repeat (first | exact HB.out.below | exact HX43.out | exact HX15.out | refine below_drew ?_))); rintro e w3 ⟨v, rfl, hf⟩; obtain ⟨A5, c5, rfl, _⟩ := Kd.R_slice_len hf.1; have HF15 : Aside0 (Fresh wr r1 _ w3) := ⟨hf.lower (by repeat (first | exact Below.refl _ _ | exact HU43.out | exact HU15.out | refine below_drew ?_))⟩; have HU15 : Aside0 (Below wr.heap.size wr w3) := ⟨HF15.out.2⟩; have HX15 : Aside0 (Below W.heap.size W w3) := ⟨HB.out.below.trans (HU15.out.mono HB.out.below.size)⟩; (try (have HF43 := Aside0.mk (HF43.out.later (Below.trans (by repeat (first | exact Below.refl _ _ | refine below_drew ?_)) hf.2)))); clear hf)
                      | (go_at_call 43; (with_reducible refine (hand_calls (m := ⟨1, ot, 1, ma, mb, data⟩) ?C43 HMC.out HML.out).mono ?_); (case C43 => exact Kd.C_below HM.out (by repeat (first | exact HB.out.below | exact HX43.out | exact HX15.out | refine below_drew ?_))); rintro e w3 ⟨v, rfl, hf⟩; obtain ⟨A6, c6, rfl, _⟩ := Kd.R_slice_len hf.1; have HF43 : Aside0 (Fresh wr (OM.hand ⟨1, ot, 1, ma, mb, data⟩) _ w3) := ⟨hf.lower (by repeat (first | exact Below.refl _ _ | exact HU43.out | exact HU15.out | refine below_drew ?_))⟩; have HU43 : Aside0 (Below wr.heap.size wr w3) := ⟨HF43.out.2⟩; have HX43 : Aside0 (Below W.heap.size W w3) := ⟨HB.out.below.trans (HU43.out.mono HB.out.below.size)⟩; (try (have HF15 := Aside0.mk (HF15.out.later (Below.trans (by repeat (first | exact Below.refl _ _ | refine below_drew ?_)) hf.2)))); clear hf)
                      | (refine Kd.R_append_rows_step By (w0 := wr) wr.heap.size (by rfl) (.tmp 32) (.tmp 34) 28 5 (.int .u8 0) 1 (by rfl) Try.underlying28 G.info5 rfl (by decide) (by decide) (.slice A5 r1.length c5) r1 (OM.hand ⟨1, ot, 1, ma, mb, data⟩) A6 (OM.hand ⟨1, ot, 1, ma, mb, data⟩).length c6 (fun _ => True) (fun _ => False) (by rfl) (by rfl) ?aO ?aR (fun _ _ hk => hk) (fun _ hk => hk.elim) (fun _ _ => trivial) ?aB ?aS ?aL ?_; (case aO => exact (HF15.out.later (by repeat (first | exact Below.refl _ _ | refine below_drew ?_))).1); (case aR => exact (HF43.out.later (by repeat (first | exact Below.refl _ _ | refine below_drew ?_))).reads); (case aB => exact (HF15.out.later (by repeat (first | exact Below.refl _ _ | refine below_drew ?_))).2); (case aS => exact HF15.out.2.size); (case aL => rw [Nat.mul_one]; exact Nat.le_trans HLA.out (by decide)); intro u1 w5 hr1 hb1 hg1 hat1; obtain ⟨A9, n9, rfl, hn9⟩ := Kd.R_slice_len hr1; have HRN := Aside0.mk hr1; have HBN := Aside0.mk hb1; have HNN := Aside0.mk hn9; clear hr1 hb1 hg1 hat1 hn9) | fail)
            all_goals
              go_wp2_with fail
              go_meet
              exact ⟨rfl, _, _, by rw [HAL.out, List.length_append], ⟨by rw [HAL.out]; exact ⟨(Kd.R_reads' HRN.out).2.2, HNN.out, by rw [List.length_append]; exact HLA.out⟩⟩, ⟨HB.out.next HBN.out⟩⟩
          case rest =>
            obtain ⟨rfl, A9, c9, rfl, HR9, HBX⟩ := hcut
            clear x0 x1 x2 x3 x4 x5 y1 y3 y4 z1 z3 z4 HXX hf0 hf1 hf2 HCd HCt HCr HCrr
            obtain ⟨y0, y1, y2, y3, y4⟩ := sd_cells HBX.out.was
            obtain ⟨z0, z1, z2, z3, z4⟩ := sd_cells HBX.out.is
            dsimp only at y0 y1 y2 y3 y4 z0 z1 z2 z3 z4
            clear y0 y1 y2 z0 z2
            have HCt := Aside0.mk (Kd.C_below HRt.out.C HBX.out.below)
            have HCr := Aside0.mk (Kd.C_below HRrr.out.C HBX.out.below)
            have HC1 := Aside0.mk HR9.out.C
            have HC2 := Aside0.mk (Kd.C_below HRd.out.C HBX.out.below)
            go_wp2_with fail
            refine (equal_n HE1.out rfl rfl HCr.out HRrr.out.cap HC1.out HR9.out.cap HRrr.out.len).mono ?_
            rintro e w7 ⟨rfl, n7, rfl⟩
            go_wp2_with fail
            refine (equal_n HE2.out rfl rfl (Kd.C_drewN HCt.out _) HRt.out.cap (Kd.C_drewN HC2.out _) HRd.out.cap HRt.out.len).mono ?_
            rintro e w8 ⟨rfl, n8, rfl⟩
            go_wp2
            go_roundw
            case rel => exact ⟨2, by omega, by first | rfl | go_num, ⟨Bx.next HBX.out (by repeat (first | exact Below.refl _ _ | refine pw_below_drewN ?_ _))⟩⟩
            case measure => simp [intOf]
        · have HLA := Aside0.mk (show r1.length + (OM.hand ⟨2, ot, 1, ma, mb, data⟩).length ≤ 16777216 from HF.out.fits 1 (by omega) rfl (by simp))
          obtain ⟨al, hal⟩ : ∃ al, al = (r1 ++ OM.hand ⟨2, ot, 1, ma, mb, data⟩) := ⟨_, rfl⟩
          have HE1 := Aside0.mk (show r1' = al by rw [hal]; exact her.trans (OM.all_app rfl (by simp)))
          have HE2 := Aside0.mk (show d1' = d1 from hed.trans (OM.sure_app (by simp)))
          have HAL := Aside0.mk hal
          clear hal her hed
          go_upto_if 25 with fail
          go_cut [8, 9] (fun v v9 wx => v9 = .slice A3 d1.length c3 ∧ ∃ (A9 : Option Addr) (c9 : Nat), v = .slice A9 al.length c9 ∧ Aside0 (Rd wx A9 c9 al) ∧ Aside0 (Bx W wx ⟨2, ot, 1, ma, mb, data⟩ A c ⟨r0, r1, d0, d1, dn⟩ ⟨r0', r1', d0', d1', dn'⟩ ⟨A0, c0, A1, c1, A2, c2, A3, c3⟩ ⟨A0', c0', A1', c1', A2', c2', A3', c3'⟩))
          case first =>
            go_wp2_with fail
            go_region_held3 (fun w' => w'.cell? ⟨W.heap.size, 0, none⟩ = some (.int .i64 2) ∧ w'.cell? ⟨W.heap.size, 1, none⟩ = some (.bool ot) ∧ w'.cell? ⟨W.heap.size, 2, none⟩ = some (.int .i64 1) ∧ w'.cell? ⟨W.heap.size, 3, none⟩ = some (.int .i64 ma) ∧ w'.cell? ⟨W.heap.size, 4, none⟩ = some (.int .i64 mb) ∧ w'.cell? ⟨W.heap.size, 5, none⟩ = some (.slice A data.length c)) (first | exact Bx.ops (HB.out.next HBN.out) | exact Bx.ops HB.out | exact Bx.ops (HB.out.next HU15.out) | exact Bx.ops (HB.out.next HU43.out) | exact Bx.ops (HB.out.next HBN.out)) (first
                      | (go_at_call 15; (with_reducible refine (lcopied_calls ?C15 HRr.out.cap (by have := HRr.out.len; omega)).mono ?_); (case C15 => exact Kd.C_below HRr.out.C (by repeat (first | exact HB.out.below | exact HX43.out | exact HX15.out | refine below_drew ?_))); rintro e w3 ⟨v, rfl, hf⟩; obtain ⟨A5, c5, rfl, _⟩ := Kd.R_slice_len hf.1; have HF15 : Aside0 (Fresh wr r1 _ w3) := ⟨hf.lower (by repeat (first | exact Below.refl _ _ | exact HU43.out | exact HU15.out | refine below_drew ?_))⟩; have HU15 : Aside0 (Below wr.heap.size wr w3) := ⟨HF15.out.2⟩; have HX15 : Aside0 (Below W.heap.size W w3) := ⟨HB.out.below.trans (HU15.out.mono HB.out.below.size)⟩; (try (have HF43 := Aside0.mk (HF43.out.later (Below.trans (by repeat (first | exact Below.refl _ _ | refine below_drew ?_)) hf.2)))); clear hf)
                      | (go_at_call 43; (with_reducible refine (hand_calls (m := ⟨2, ot, 1, ma, mb, data⟩) ?C43 HMC.out HML.out).mono ?_); (case C43 => exact Kd.C_below HM.out (by repeat (first | exact HB.out.below | exact HX43.out | exact HX15.out | refine below_drew ?_))); rintro e w3 ⟨v, rfl, hf⟩; obtain ⟨A6, c6, rfl, _⟩ := Kd.R_slice_len hf.1; have HF43 : Aside0 (Fresh wr (OM.hand ⟨2, ot, 1, ma, mb, data⟩) _ w3) := ⟨hf.lower (by repeat (first | exact Below.refl _ _ | exact HU43.out | exact HU15.out | refine below_drew ?_))⟩; have HU43 : Aside0 (Below wr.heap.size wr w3) := ⟨HF43.out.2⟩; have HX43 : Aside0 (Below W.heap.size W w3) := ⟨HB.out.below.trans (HU43.out.mono HB.out.below.size)⟩; (try (have HF15 := Aside0.mk (HF15.out.later (Below.trans (by repeat (first | exact Below.refl _ _ | refine below_drew ?_)) hf.2)))); clear hf)
                      | (refine Kd.R_append_rows_step By (w0 := wr) wr.heap.size (by rfl) (.tmp 32) (.tmp 34) 28 5 (.int .u8 0) 1 (by rfl) Try.underlying28 G.info5 rfl (by decide) (by decide) (.slice A5 r1.length c5) r1 (OM.hand ⟨2, ot, 1, ma, mb, data⟩) A6 (OM.hand ⟨2, ot, 1, ma, mb, data⟩).length c6 (fun _ => True) (fun _ => False) (by rfl) (by rfl) ?aO ?aR (fun _ _ hk => hk) (fun _ hk => hk.elim) (fun _ _ => trivial) ?aB ?aS ?aL ?_; (case aO => exact (HF15.out.later (by repeat (first | exact Below.refl _ _ | refine below_drew ?_))).1); (case aR => exact (HF43.out.later (by repeat (first | exact Below.refl _ _ | refine below_drew ?_))).reads); (case aB => exact (HF15.out.later (by repeat (first | exact Below.refl _ _ | refine below_drew ?_))).2); (case aS => exact HF15.out.2.size); (case aL => rw [Nat.mul_one]; exact Nat.le_trans HLA.out (by decide)); intro u1 w5 hr1 hb1 hg1 hat1; obtain ⟨A9, n9, rfl, hn9⟩ := Kd.R_slice_len hr1; have HRN := Aside0.mk hr1; have HBN := Aside0.mk hb1; have HNN := Aside0.mk hn9; clear hr1 hb1 hg1 hat1 hn9) | fail)
            all_goals
              go_wp2_with fail
              go_meet
              exact ⟨rfl, _, _, by rw [HAL.out, List.length_append], ⟨by rw [HAL.out]; exact ⟨(Kd.R_reads' HRN.out).2.2, HNN.out, by rw [List.length_append]; exact HLA.out⟩⟩, ⟨HB.out.next HBN.out⟩⟩
          case rest =>
            obtain ⟨rfl, A9, c9, rfl, HR9, HBX⟩ := hcut
            clear x0 x1 x2 x3 x4 x5 y1 y3 y4 z1 z3 z4 HXX hf0 hf1 hf2 HCd HCt HCr HCrr
            obtain ⟨y0, y1, y2, y3, y4⟩ := sd_cells HBX.out.was
            obtain ⟨z0, z1, z2, z3, z4⟩ := sd_cells HBX.out.is
            dsimp only at y0 y1 y2 y3 y4 z0 z1 z2 z3 z4
            clear y0 y1 y2 z0 z2
            have HCt := Aside0.mk (Kd.C_below HRt.out.C HBX.out.below)
            have HCr := Aside0.mk (Kd.C_below HRrr.out.C HBX.out.below)
            have HC1 := Aside0.mk HR9.out.C
            have HC2 := Aside0.mk (Kd.C_below HRd.out.C HBX.out.below)
            go_wp2_with fail
            refine (equal_n HE1.out rfl rfl HCr.out HRrr.out.cap HC1.out HR9.out.cap HRrr.out.len).mono ?_
            rintro e w7 ⟨rfl, n7, rfl⟩
            go_wp2_with fail
            refine (equal_n HE2.out rfl rfl (Kd.C_drewN HCt.out _) HRt.out.cap (Kd.C_drewN HC2.out _) HRd.out.cap HRt.out.len).mono ?_
            rintro e w8 ⟨rfl, n8, rfl⟩
            go_wp2
            go_roundw
            case rel => exact ⟨2, by omega, by first | rfl | go_num, ⟨Bx.next HBX.out (by repeat (first | exact Below.refl _ _ | refine pw_below_drewN ?_ _))⟩⟩
            case measure => simp [intOf]
        · have HE1 := Aside0.mk (show r1' = r1 from her.trans (OM.all_sync rfl))
          have HE2 := Aside0.mk (show d1' = r1 from hed.trans (OM.sure_sync rfl rfl))
          have HC1 := HCrr
          have HC2 := HCrr
          clear her hed
          go_wp2_with fail
          refine (equal_n HE1.out rfl rfl HCr.out HRrr.out.cap HC1.out HRr.out.cap HRrr.out.len).mono ?_
          rintro e w7 ⟨rfl, n7, rfl⟩
          go_wp2_with fail
          refine (equal_n HE2.out rfl rfl (Kd.C_drewN HCt.out _) HRt.out.cap (Kd.C_drewN HC2.out _) HRr.out.cap HRt.out.len).mono ?_
          rintro e w8 ⟨rfl, n8, rfl⟩
          go_wp2
          go_roundw
          case rel => exact ⟨2, by omega, by first | rfl | go_num, ⟨Bx.next HB.out (by repeat (first | exact Below.refl _ _ | refine pw_below_drewN ?_ _))⟩⟩
          case measure => simp [intOf]
        · have h4 : 0 ≤ ma ∧ ma ≤ (r1.length : Int) := HF.out.cut 1 (by omega) rfl rfl
          obtain ⟨q, rfl⟩ := Int.eq_ofNat_of_zero_le h4.1
          have hql : q ≤ r1.length := by have := h4.2; omega
          have HE1 := Aside0.mk (show r1' = r1.take q from her.trans (OM.all_cut rfl rfl))
          have HE2 := Aside0.mk (show d1' = r1.take q from hed.trans (OM.sure_cut rfl rfl))
          have HN := Aside0.mk (show q = (r1.take q).length by rw [List.length_take]; omega)
          have hC := Kd.C_take (m := q) HCrr.out hql
          have hC' : Kd.C By wr A1 (r1.take q).length (r1.take q) := hC
          have HC1 := Aside0.mk hC'
          have HC2 := Aside0.mk hC'
          obtain ⟨i0_, hi0_, _, _, _⟩ := info_parts G.info5
          have hcut := cut_to (P := Try.prog) 28 5 .i64 Try.underlying28 hi0_ A1 r1.length c1 (q : Int) (by omega) (by omega) HRr.out.cap
          rw [Int.toNat_natCast] at hcut
          have g1 : decide ((r1.length : Int) < (q : Int)) = false := decide_eq_false (by omega)
          have g2 : decide (r1.length < q) = false := decide_eq_false (by omega)
          have HQ := Aside0.mk (show (r1.take q).length ≤ c1 by rw [← HN.out]; have := HRr.out.cap; omega)
          clear her hed h4 hC hC' hi0_
          go_wp2_with fail
          refine (equal_n HE1.out rfl HN.out HCr.out HRrr.out.cap HC1.out HQ.out HRrr.out.len).mono ?_
          rintro e w7 ⟨rfl, n7, rfl⟩
          go_wp2_with fail
          refine (equal_n HE2.out rfl HN.out (Kd.C_drewN HCt.out _) HRt.out.cap (Kd.C_drewN HC2.out _) HQ.out HRt.out.len).mono ?_
          rintro e w8 ⟨rfl, n8, rfl⟩
          go_wp2
          go_roundw
          case rel => exact ⟨2, by omega, by first | rfl | go_num, ⟨Bx.next HB.out (by repeat (first | exact Below.refl _ _ | refine pw_below_drewN ?_ _))⟩⟩
          case measure => simp [intOf]
      · have k1 : ((1 : Int) == fl) = false := by simp; omega
        have HE1 := Aside0.mk (show r1' = r1 from her.trans (OM.all_ne (fun h_ => hf h_.symm)))
        have HE2 := Aside0.mk (show d1' = d1 from hed.trans (OM.sure_ne (fun h_ => hf h_.symm)))
        have HC1 := HCrr
        have HC2 := HCd
        clear hf her hed
        go_wp2_with fail
        refine (equal_n HE1.out rfl rfl HCr.out HRrr.out.cap HC1.out HRr.out.cap HRrr.out.len).mono ?_
        rintro e w7 ⟨rfl, n7, rfl⟩
        go_wp2_with fail
        refine (equal_n HE2.out rfl rfl (Kd.C_drewN HCt.out _) HRt.out.cap (Kd.C_drewN HC2.out _) HRd.out.cap HRt.out.len).mono ?_
        rintro e w8 ⟨rfl, n8, rfl⟩
        go_wp2
        go_roundw
        case rel => exact ⟨2, by omega, by first | rfl | go_num, ⟨Bx.next HB.out (by repeat (first | exact Below.refl _ _ | refine pw_below_drewN ?_ _))⟩⟩
        case measure => simp [intOf]
    · go_wp2_with fail
      go_ret
      exact ⟨rfl, HB.out.below⟩
end
end Go.Proofs.Yticokogggepfoaa.D
