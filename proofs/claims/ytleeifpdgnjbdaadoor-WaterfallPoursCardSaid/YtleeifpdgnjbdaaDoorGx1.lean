-- Written by stubprint.py (wip/) of this work, over the kit's print.py; parts by hand.
import Derived.Test.YtleeifpdgnjbdaaDoorGx0
namespace Go.Proofs.YtleeifpdgnjbdaaDoor.G
open Go.RowKit Go.Proofs.YtleeifpdgnjbdaaDoorW.PrintWords Go.Proofs.YtleeifpdgnjbdaaDoorW.PrintLast Go.Proofs.YtleeifpdgnjbdaaDoorW.PrintMore
attribute [local go_sem] max2_int min2_int max_two min_two max_three min_three max_four min_four   -- for this text's walks alone
set_option linter.unusedVariables false
set_option linter.unusedSimpArgs false

/-! ### waterfall_Order: function 7 (by hand) -/
def waterfall_Order.kind (o j : Int) : Int := (([3, 2, 1, 3, 1, 2, 2, 3, 1, 2, 1, 3, 1, 3, 2, 1, 2, 3] : List Int)).getD (o.toNat * 3 + j.toNat) 0
def waterfall_Order.f (a0 : Int) : Option (Int × Int × Int × Bool) := some (if a0 < 0 then (0, 0, 0, false) else if a0 ≥ 6 then (0, 0, 0, false) else (waterfall_Order.kind a0 0, waterfall_Order.kind a0 1, waterfall_Order.kind a0 2, true))
theorem waterfall_Order.cells (w : World) (hL : Laid w) (a0 : Int) (h0 : 0 ≤ a0) (h1 : a0 < 6) (j : Nat) (hj : j < 3) : w.cell? ⟨0, a0.toNat * 3 + j, none⟩ = some (.int .i64 (waterfall_Order.kind a0 (j : Int))) := by
  apply hL.at0
  have : a0 = 0 ∨ a0 = 1 ∨ a0 = 2 ∨ a0 = 3 ∨ a0 = 4 ∨ a0 = 5 := by omega
  have hj' : j = 0 ∨ j = 1 ∨ j = 2 := by omega
  rcases this with rfl | rfl | rfl | rfl | rfl | rfl <;> rcases hj' with rfl | rfl | rfl <;> rfl
set_option maxRecDepth 100000 in
set_option maxHeartbeats 1000000 in
theorem waterfall_Order.calls (a0 : Int) (r1 r2 r3 : Int) (r4 : Bool) (w : World) (hL : Laid w) (h : waterfall_Order.f a0 = some (r1, r2, r3, r4)) :
    Calls Tryd.prog 7 #[.int .i64 a0] w fun e w' => e = .returned (.tuple #[.agg #[.int .i64 r1, .int .i64 r2, .int .i64 r3], .bool r4]) ∧ Below w.heap.size w w' := by
  have HL := Aside0.mk hL
  have hu24 := Tryd.underlying24
  have hu46 := Tryd.underlying46
  unfold waterfall_Order.f at h
  have h := Option.some.inj h
  clear hL
  by_cases c0 : a0 < 0
  · rw [if_pos c0] at h
    injection h with e1 h; injection h with e2 h; injection h with e3 e4
    subst e1 e2 e3 e4
    have d0 : decide (a0 < 0) = true := decide_eq_true c0
    clear c0
    go_enter Tryd.func7, Tryd.ntmps7
    go_wp2_with (first | ((with_reducible refine gate_dst (N := 2) rfl ?_); refine box_event ?hg (N := 2) ?hd (cs := #[.int .i64 0, .int .i64 0, .int .i64 0]) (t := 24) ?hr ?_; (case hd => rfl); (case hg => rfl); (case hr => first | (go_simp; done) | (go_simp; rfl)); intro gb hg w1 hbox hb; have BK := Aside0.mk hbox; have GE := Aside0.mk (show w.heap.size ≤ gb from by rw [hg]; exact Nat.le_refl _); have HB := Aside0.mk hb; clear hbox hb hg; have hf0 := blk_frozen BK.out 0; have hf1 := blk_frozen BK.out 1; have hf2 := blk_frozen BK.out 2; have hc0 : w1.cell? ⟨gb, 0, none⟩ = some (.int .i64 0) := (blk_cell BK.out 0).trans rfl; have hc1 : w1.cell? ⟨gb, 1, none⟩ = some (.int .i64 0) := (blk_cell BK.out 1).trans rfl; have hc2 : w1.cell? ⟨gb, 2, none⟩ = some (.int .i64 0) := (blk_cell BK.out 2).trans rfl))
    refine bodyPost_ret (results_ct rfl _ _ gb 24 #[.int .i64 0, .int .i64 0, .int .i64 0] (0, 0) _ rfl (by
      (with_reducible repeat (first | refine blk_drewN ?_ _ | refine blk_drew ?_))
      refine blk_put (cs := #[.int .i64 0, .int .i64 0, .int .i64 0]) ?_ 2 _ rfl
      (with_reducible repeat (first | refine blk_drewN ?_ _ | refine blk_drew ?_))
      refine blk_put (cs := #[.int .i64 0, .int .i64 0, .int .i64 0]) ?_ 1 _ rfl
      (with_reducible repeat (first | refine blk_drewN ?_ _ | refine blk_drew ?_))
      refine blk_put (cs := #[.int .i64 0, .int .i64 0, .int .i64 0]) ?_ 0 _ rfl
      (with_reducible repeat (first | refine blk_drewN ?_ _ | refine blk_drew ?_))
      exact BK.out) Tryd.underlying24 rfl (by kernel_rfl)) rfl ?_
    exact ⟨rfl, by repeat (with_reducible first | exact HB.out | apply pw_below_drewN | apply below_drew1 | refine below_set ?_ GE.out)⟩
  · have d0 : decide (a0 < 0) = false := decide_eq_false c0
    rw [if_neg c0] at h
    by_cases c6 : a0 ≥ 6
    · rw [if_pos c6] at h
      injection h with e1 h; injection h with e2 h; injection h with e3 e4
      subst e1 e2 e3 e4
      have d6 : decide (6 ≤ a0) = true := decide_eq_true c6
      clear c6
      go_enter Tryd.func7, Tryd.ntmps7
      go_wp2_with (first | ((with_reducible refine gate_dst (N := 2) rfl ?_); refine box_event ?hg (N := 2) ?hd (cs := #[.int .i64 0, .int .i64 0, .int .i64 0]) (t := 24) ?hr ?_; (case hd => rfl); (case hg => rfl); (case hr => first | (go_simp; done) | (go_simp; rfl)); intro gb hg w1 hbox hb; have BK := Aside0.mk hbox; have GE := Aside0.mk (show w.heap.size ≤ gb from by rw [hg]; exact Nat.le_refl _); have HB := Aside0.mk hb; clear hbox hb hg; have hf0 := blk_frozen BK.out 0; have hf1 := blk_frozen BK.out 1; have hf2 := blk_frozen BK.out 2; have hc0 : w1.cell? ⟨gb, 0, none⟩ = some (.int .i64 0) := (blk_cell BK.out 0).trans rfl; have hc1 : w1.cell? ⟨gb, 1, none⟩ = some (.int .i64 0) := (blk_cell BK.out 1).trans rfl; have hc2 : w1.cell? ⟨gb, 2, none⟩ = some (.int .i64 0) := (blk_cell BK.out 2).trans rfl))
      refine bodyPost_ret (results_ct rfl _ _ gb 24 #[.int .i64 0, .int .i64 0, .int .i64 0] (0, 0) _ rfl (by
        (with_reducible repeat (first | refine blk_drewN ?_ _ | refine blk_drew ?_))
        refine blk_put (cs := #[.int .i64 0, .int .i64 0, .int .i64 0]) ?_ 2 _ rfl
        (with_reducible repeat (first | refine blk_drewN ?_ _ | refine blk_drew ?_))
        refine blk_put (cs := #[.int .i64 0, .int .i64 0, .int .i64 0]) ?_ 1 _ rfl
        (with_reducible repeat (first | refine blk_drewN ?_ _ | refine blk_drew ?_))
        refine blk_put (cs := #[.int .i64 0, .int .i64 0, .int .i64 0]) ?_ 0 _ rfl
        (with_reducible repeat (first | refine blk_drewN ?_ _ | refine blk_drew ?_))
        exact BK.out) Tryd.underlying24 rfl (by kernel_rfl)) rfl ?_
      exact ⟨rfl, by repeat (with_reducible first | exact HB.out | apply pw_below_drewN | apply below_drew1 | refine below_set ?_ GE.out)⟩
    · rw [if_neg c6] at h
      injection h with e1 h; injection h with e2 h; injection h with e3 e4
      have d6 : decide (6 ≤ a0) = false := decide_eq_false (by omega)
      have t0 : w.cell? ⟨0, a0.toNat * 3, none⟩ = some (.int .i64 (waterfall_Order.kind a0 0)) := waterfall_Order.cells w HL.out a0 (by omega) (by omega) 0 (by omega)
      have t1 : w.cell? ⟨0, a0.toNat * 3 + 1, none⟩ = some (.int .i64 (waterfall_Order.kind a0 1)) := waterfall_Order.cells w HL.out a0 (by omega) (by omega) 1 (by omega)
      have t2 : w.cell? ⟨0, a0.toNat * 3 + 2, none⟩ = some (.int .i64 (waterfall_Order.kind a0 2)) := waterfall_Order.cells w HL.out a0 (by omega) (by omega) 2 (by omega)
      have E := Aside0.mk (And.intro e1 (And.intro e2 e3))
      subst e4
      have p0 := eq_true (show 0 ≤ a0 by omega)
      have p6 := eq_true (show a0 < 6 by omega)
      have p6' := eq_true (show a0.toNat < 6 by omega)
      clear c0 c6 e1 e2 e3
      go_enter Tryd.func7, Tryd.ntmps7
      go_wp2_with (first | ((with_reducible refine gate_dst (N := 2) rfl ?_); refine box_event ?hg (N := 2) ?hd (cs := #[.int .i64 0, .int .i64 0, .int .i64 0]) (t := 24) ?hr ?_; (case hd => rfl); (case hg => rfl); (case hr => first | (go_simp; done) | (go_simp; rfl)); intro gb hg w1 hbox hb; have BK := Aside0.mk hbox; have GE := Aside0.mk (show w.heap.size ≤ gb from by rw [hg]; exact Nat.le_refl _); have HB := Aside0.mk hb; replace t0 := (hb.cell (World.block_lt_of_cell? w _ t0)).trans t0; replace t1 := (hb.cell (World.block_lt_of_cell? w _ t1)).trans t1; replace t2 := (hb.cell (World.block_lt_of_cell? w _ t2)).trans t2; clear hbox hb hg; have hf0 := blk_frozen BK.out 0; have hf1 := blk_frozen BK.out 1; have hf2 := blk_frozen BK.out 2; have hc0 : w1.cell? ⟨gb, 0, none⟩ = some (.int .i64 0) := (blk_cell BK.out 0).trans rfl; have hc1 : w1.cell? ⟨gb, 1, none⟩ = some (.int .i64 0) := (blk_cell BK.out 1).trans rfl; have hc2 : w1.cell? ⟨gb, 2, none⟩ = some (.int .i64 0) := (blk_cell BK.out 2).trans rfl))
      refine bodyPost_ret (results_ct rfl _ _ gb 24 #[.int .i64 (waterfall_Order.kind a0 0), .int .i64 (waterfall_Order.kind a0 1), .int .i64 (waterfall_Order.kind a0 2)] (0, 0) _ rfl (by
        (with_reducible repeat (first | refine blk_drewN ?_ _ | refine blk_drew ?_))
        refine blk_put (cs := #[.int .i64 (waterfall_Order.kind a0 0), .int .i64 (waterfall_Order.kind a0 1), .int .i64 0]) ?_ 2 _ rfl
        (with_reducible repeat (first | refine blk_drewN ?_ _ | refine blk_drew ?_))
        refine blk_put (cs := #[.int .i64 (waterfall_Order.kind a0 0), .int .i64 0, .int .i64 0]) ?_ 1 _ rfl
        (with_reducible repeat (first | refine blk_drewN ?_ _ | refine blk_drew ?_))
        refine blk_put (cs := #[.int .i64 0, .int .i64 0, .int .i64 0]) ?_ 0 _ rfl
        (with_reducible repeat (first | refine blk_drewN ?_ _ | refine blk_drew ?_))
        exact BK.out) Tryd.underlying24 rfl (by kernel_rfl)) rfl ?_
      exact ⟨by rw [← E.out.1, ← E.out.2.1, ← E.out.2.2]; rfl, by repeat (with_reducible first | exact HB.out | apply pw_below_drewN | apply below_drew1 | refine below_set ?_ GE.out)⟩

/-! ### arrearsref9_Turn: function 18 -/
mutual
def arrearsref9_Turn.j0 : Nat → Int → Int → Option (Int)
  | 0, _, _ => none
  | k + 1, x1, x5 => arrearsref9_Turn.l0 k x5 x1
def arrearsref9_Turn.l0 : Nat → Int → Int → Option (Int)
  | 0, _, _ => none
  | k + 1, x5, x6 => if x6 < 2 then (arrearsref9_Turn.l0 k (wrap64 (Int.tdiv x5 10)) (wrap64 (x6 + 1))) else (some (Int.tmod x5 10))
end
def arrearsref9_Turn.f (k : Nat) (a0 : Int) (a1 : Int) : Option (Int) := if a0 = 0 then (arrearsref9_Turn.j0 k a1 321) else (if a0 = 1 then (arrearsref9_Turn.j0 k a1 312) else (if a0 = 2 then (arrearsref9_Turn.j0 k a1 231) else (if a0 = 3 then (arrearsref9_Turn.j0 k a1 213) else (if a0 = 4 then (arrearsref9_Turn.j0 k a1 132) else (if a0 = 5 then (arrearsref9_Turn.j0 k a1 123) else (some (-1)))))))
theorem arrearsref9_Turn.mono_l : ∀ k, (∀ y0 y1, LeO (arrearsref9_Turn.j0 k y0 y1) (arrearsref9_Turn.j0 (k + 1) y0 y1)) ∧ (∀ y0 y1, LeO (arrearsref9_Turn.l0 k y0 y1) (arrearsref9_Turn.l0 (k + 1) y0 y1))
  | 0 => ⟨fun _ _ r h => by simp [arrearsref9_Turn.j0] at h, fun _ _ r h => by simp [arrearsref9_Turn.l0] at h⟩
  | k + 1 => by
    obtain ⟨ih0, ih1⟩ := arrearsref9_Turn.mono_l k
    refine ⟨?_, ?_⟩
    · intro y0 y1
      unfold arrearsref9_Turn.j0
      repeat' first
      | (with_reducible exact ih0 _ _)
      | (with_reducible exact ih1 _ _)
      | (with_reducible exact LeO.refl _)
      | (with_reducible exact LeO.none _)
      | (with_reducible refine LeO.ite ?_ ?_)
      | (with_reducible refine LeO.bind ?_ (fun _ => ?_))
      | exact ih0 _ _
      | exact ih1 _ _
      | exact LeO.none _
      | refine LeO.ite ?_ ?_
      | refine LeO.bind ?_ (fun _ => ?_)
    · intro y0 y1
      unfold arrearsref9_Turn.l0
      repeat' first
      | (with_reducible exact ih0 _ _)
      | (with_reducible exact ih1 _ _)
      | (with_reducible exact LeO.refl _)
      | (with_reducible exact LeO.none _)
      | (with_reducible refine LeO.ite ?_ ?_)
      | (with_reducible refine LeO.bind ?_ (fun _ => ?_))
      | exact ih0 _ _
      | exact ih1 _ _
      | exact LeO.none _
      | refine LeO.ite ?_ ?_
      | refine LeO.bind ?_ (fun _ => ?_)
theorem arrearsref9_Turn.mono : ∀ a0 a1 k, LeO (arrearsref9_Turn.f k a0 a1) (arrearsref9_Turn.f (k + 1) a0 a1) := by
  intro a0 a1 k
  obtain ⟨ih0, ih1⟩ := arrearsref9_Turn.mono_l k
  unfold arrearsref9_Turn.f
  repeat' first
      | (with_reducible exact ih0 _ _)
      | (with_reducible exact ih1 _ _)
      | (with_reducible exact LeO.refl _)
      | (with_reducible exact LeO.none _)
      | (with_reducible refine LeO.ite ?_ ?_)
      | (with_reducible refine LeO.bind ?_ (fun _ => ?_))
      | exact ih0 _ _
      | exact ih1 _ _
      | exact LeO.none _
      | refine LeO.ite ?_ ?_
      | refine LeO.bind ?_ (fun _ => ?_)
set_option maxHeartbeats 8000000 in
set_option maxRecDepth 100000 in
theorem arrearsref9_Turn.calls (k : Nat) (a0 : Int) (a1 : Int) (r : Int) (w : World) (h : arrearsref9_Turn.f k a0 a1 = some r) :
    Calls Tryd.prog 18 #[.int .i64 a0, .int .i64 a1] w fun e w' => e = .returned (.int .i64 r) ∧ Drawn0 w w' := by
  have H : (if a0 = 0 then (arrearsref9_Turn.j0 k a1 321) else (if a0 = 1 then (arrearsref9_Turn.j0 k a1 312) else (if a0 = 2 then (arrearsref9_Turn.j0 k a1 231) else (if a0 = 3 then (arrearsref9_Turn.j0 k a1 213) else (if a0 = 4 then (arrearsref9_Turn.j0 k a1 132) else (if a0 = 5 then (arrearsref9_Turn.j0 k a1 123) else (some (-1)))))))) = some r := h
  clear h
  have HC3 := Aside0.mk H
  clear H
  go_enter Tryd.func18, Tryd.ntmps18
  go_upto_block 0 with (fail)
  go_cut [5] (fun v5 wc => ∃ (kq : Nat) (x5_2 : Int), v5 = .int .i64 x5_2 ∧ Aside0 (arrearsref9_Turn.j0 kq a1 x5_2 = some r) ∧ Aside0 (kq ≤ k) ∧ Drawn0 w wc)
  case first =>
    have H := HC3.out
    clear HC3
    by_cases c4 : a0 = 0
    · rw [if_pos c4] at H
      have c4b0 : (a0 == 0) = true := beq_iff_eq.mpr c4
      have c4b1 : (a0 != 0) = false := bne_eq_false_iff_eq.mpr c4
      clear c4
      (first | rw [c4b0] | (simp only [i64_w, i32_w]; rw [c4b0]) | skip)
      have H' := Aside0.mk H
      clear H
      go_wp2
      go_meet
      case rel => exact ⟨_, (321), (by first | rfl | (simp; done) | (simp [*]; done)), H', ⟨by first | omega | exact Nat.le_refl _⟩, by repeat (first | exact Drawn0.refl _ | apply Drawn0.step)⟩
    · rw [if_neg c4] at H
      have c4b0 : (a0 == 0) = false := beq_eq_false_iff_ne.mpr c4
      have c4b1 : (a0 != 0) = true := bne_iff_ne.mpr c4
      (first | rw [c4b0] | (simp only [i64_w, i32_w]; rw [c4b0]) | skip)
      by_cases c5 : a0 = 1
      · rw [if_pos c5] at H
        have c5b0 : (a0 == 1) = true := beq_iff_eq.mpr c5
        have c5b1 : (a0 != 1) = false := bne_eq_false_iff_eq.mpr c5
        clear c5
        have H' := Aside0.mk H
        clear H
        go_wp2
        go_meet
        case rel => exact ⟨_, (312), (by first | rfl | (simp; done) | (simp [*]; done)), H', ⟨by first | omega | exact Nat.le_refl _⟩, by repeat (first | exact Drawn0.refl _ | apply Drawn0.step)⟩
      · rw [if_neg c5] at H
        have c5b0 : (a0 == 1) = false := beq_eq_false_iff_ne.mpr c5
        have c5b1 : (a0 != 1) = true := bne_iff_ne.mpr c5
        by_cases c6 : a0 = 2
        · rw [if_pos c6] at H
          have c6b0 : (a0 == 2) = true := beq_iff_eq.mpr c6
          have c6b1 : (a0 != 2) = false := bne_eq_false_iff_eq.mpr c6
          clear c6
          have H' := Aside0.mk H
          clear H
          go_wp2
          go_meet
          case rel => exact ⟨_, (231), (by first | rfl | (simp; done) | (simp [*]; done)), H', ⟨by first | omega | exact Nat.le_refl _⟩, by repeat (first | exact Drawn0.refl _ | apply Drawn0.step)⟩
        · rw [if_neg c6] at H
          have c6b0 : (a0 == 2) = false := beq_eq_false_iff_ne.mpr c6
          have c6b1 : (a0 != 2) = true := bne_iff_ne.mpr c6
          by_cases c7 : a0 = 3
          · rw [if_pos c7] at H
            have c7b0 : (a0 == 3) = true := beq_iff_eq.mpr c7
            have c7b1 : (a0 != 3) = false := bne_eq_false_iff_eq.mpr c7
            clear c7
            have H' := Aside0.mk H
            clear H
            go_wp2
            go_meet
            case rel => exact ⟨_, (213), (by first | rfl | (simp; done) | (simp [*]; done)), H', ⟨by first | omega | exact Nat.le_refl _⟩, by repeat (first | exact Drawn0.refl _ | apply Drawn0.step)⟩
          · rw [if_neg c7] at H
            have c7b0 : (a0 == 3) = false := beq_eq_false_iff_ne.mpr c7
            have c7b1 : (a0 != 3) = true := bne_iff_ne.mpr c7
            by_cases c8 : a0 = 4
            · rw [if_pos c8] at H
              have c8b0 : (a0 == 4) = true := beq_iff_eq.mpr c8
              have c8b1 : (a0 != 4) = false := bne_eq_false_iff_eq.mpr c8
              clear c8
              have H' := Aside0.mk H
              clear H
              go_wp2
              go_meet
              case rel => exact ⟨_, (132), (by first | rfl | (simp; done) | (simp [*]; done)), H', ⟨by first | omega | exact Nat.le_refl _⟩, by repeat (first | exact Drawn0.refl _ | apply Drawn0.step)⟩
            · rw [if_neg c8] at H
              have c8b0 : (a0 == 4) = false := beq_eq_false_iff_ne.mpr c8
              have c8b1 : (a0 != 4) = true := bne_iff_ne.mpr c8
              by_cases c9 : a0 = 5
              · rw [if_pos c9] at H
                have c9b0 : (a0 == 5) = true := beq_iff_eq.mpr c9
                have c9b1 : (a0 != 5) = false := bne_eq_false_iff_eq.mpr c9
                clear c9
                have H' := Aside0.mk H
                clear H
                go_wp2
                go_meet
                case rel => exact ⟨_, (123), (by first | rfl | (simp; done) | (simp [*]; done)), H', ⟨by first | omega | exact Nat.le_refl _⟩, by repeat (first | exact Drawn0.refl _ | apply Drawn0.step)⟩
              · rw [if_neg c9] at H
                have c9b0 : (a0 == 5) = false := beq_eq_false_iff_ne.mpr c9
                have c9b1 : (a0 != 5) = true := bne_iff_ne.mpr c9
                obtain rfl := Option.some.inj H
                go_wp2
                go_ret
                exact ⟨by first | rfl | (simp; done) | (simp [*]; done), by repeat (first | exact Drawn0.refl _ | apply Drawn0.step)⟩
  case rest =>
    clear HC3
    try clear c1
    try clear p2
    try clear c4
    try clear c4b0
    try clear c4b1
    try clear c5
    try clear c5b0
    try clear c5b1
    try clear c6
    try clear c6b0
    try clear c6b1
    try clear c7
    try clear c7b0
    try clear c7b1
    try clear c8
    try clear c8b0
    try clear c8b1
    try clear c9
    try clear c9b0
    try clear c9b1
    obtain ⟨kq, x5_2, rfl, HA, HJ2, ⟨mc2, rfl⟩⟩ := hcut
    cases kq with
    | zero => exact absurd HA.out (by simp [arrearsref9_Turn.j0])
    | succ kj2 =>
      have H := HA.out
      clear HA
      simp only [arrearsref9_Turn.j0] at H
      have H' := Aside0.mk H
      clear H
      go_wp2
      go_loopg [5, 6] kj2 (fun kq v5 v6 w' => ∃ (x5_2 : Int) (x6_2 : Int), v5 = .int .i64 x5_2 ∧ v6 = .int .i64 x6_2 ∧ Aside0 (arrearsref9_Turn.l0 kq x5_2 x6_2 = some r) ∧ Aside0 (kq ≤ kj2) ∧ Drawn0 w w')
      case atStart => exact ⟨(x5_2), (a1), (by first | rfl | (simp; done) | (simp [*]; done)), (by first | rfl | (simp; done) | (simp [*]; done)), H', ⟨Nat.le_refl _⟩, by repeat (first | exact Drawn0.refl _ | apply Drawn0.step)⟩
      case round =>
        clear H'
        try clear c1
        try clear c2
        try clear p2
        try clear c4
        try clear c4b0
        try clear c4b1
        try clear c5
        try clear c5b0
        try clear c5b1
        try clear c6
        try clear c6b0
        try clear c6b1
        try clear c7
        try clear c7b0
        try clear c7b1
        try clear c8
        try clear c8b0
        try clear c8b1
        try clear c9
        try clear c9b0
        try clear c9b1
        try clear p2
        obtain ⟨x5_2, x6_2, rfl, rfl, HA, HK2, ⟨m2, rfl⟩⟩ := hrel
        cases gk with
        | zero => exact absurd HA.out (by simp [arrearsref9_Turn.l0])
        | succ k2 =>
          have H := HA.out
          clear HA
          simp only [arrearsref9_Turn.l0] at H
          by_cases c10 : x6_2 < 2
          · rw [if_pos c10] at H
            have c10b0 : decide (x6_2 < 2) = true := decide_eq_true c10
            clear c10
            have H' := Aside0.mk H
            clear H
            go_wp2
            go_roundg k2
            case measure => have := HJ2.out; have := HK2.out; omega
            case rel => exact ⟨(wrap64 (Int.tdiv x5_2 10)), (wrap64 (x6_2 + 1)), (by first | rfl | (simp; done) | (simp [*]; done)), (by first | rfl | (simp; done) | (simp [*]; done)), H', ⟨by have := HJ2.out; have := HK2.out; omega⟩, by repeat (first | exact Drawn0.refl _ | apply Drawn0.step)⟩
          · rw [if_neg c10] at H
            have c10b0 : decide (x6_2 < 2) = false := decide_eq_false c10
            clear c10
            obtain rfl := Option.some.inj H
            go_wp2
            go_ret
            exact ⟨by first | rfl | (simp; done) | (simp [*]; done), by repeat (first | exact Drawn0.refl _ | apply Drawn0.step)⟩

/-! ### arrearsref9_Order: function 8 (by hand) -/
def arrearsref9_Order.f (a0 : Int) : Option (Int × Int × Int × Bool) := (arrearsref9_Turn.f 50 a0 0).bind fun t0 => if t0 < 0 then some (0, 0, 0, false) else (arrearsref9_Turn.f 50 a0 1).bind fun t1 => (arrearsref9_Turn.f 50 a0 2).bind fun t2 => some (t0, t1, t2, true)
def arrearsref9_Order.row (t0 t1 t2 : Int) (n : Nat) : Array Value := #[.int .i64 (if 0 < n then t0 else 0), .int .i64 (if 1 < n then t1 else 0), .int .i64 (if 2 < n then t2 else 0)]
set_option maxRecDepth 100000 in
set_option maxHeartbeats 1000000 in
theorem arrearsref9_Order.calls (a0 : Int) (r1 r2 r3 : Int) (r4 : Bool) (w : World) (h : arrearsref9_Order.f a0 = some (r1, r2, r3, r4)) :
    Calls Tryd.prog 8 #[.int .i64 a0] w fun e w' => e = .returned (.tuple #[.agg #[.int .i64 r1, .int .i64 r2, .int .i64 r3], .bool r4]) ∧ Below w.heap.size w w' := by
  have hu24 := Tryd.underlying24
  have HB := Aside0.mk (Below.refl w.heap.size w)
  unfold arrearsref9_Order.f at h
  obtain ⟨t0, e0, h⟩ := Option.bind_eq_some_iff.mp h
  have E0 := Aside0.mk e0
  clear e0
  go_enter Tryd.func8, Tryd.ntmps8
  by_cases c : t0 < 0
  · rw [if_pos c] at h
    have h := Option.some.inj h
    injection h with e1 h; injection h with e2 h; injection h with e3 e4
    subst e1 e2 e3 e4
    have d0 : decide (t0 < 0) = true := decide_eq_true c
    clear c
    go_wp2_with (first | ((with_reducible refine gate_dst (N := 2) rfl ?_); refine box_event ?hg (N := 2) ?hd (cs := #[.int .i64 0, .int .i64 0, .int .i64 0]) (t := 24) ?hr ?_; (case hd => rfl); (case hg => rfl); (case hr => first | (go_simp; done) | (go_simp; rfl)); intro g1 hg w1 hbox hb; have n0_ := Aside0.mk (below_step HB.out hb); have G1 := Aside0.mk (show w.heap.size ≤ g1 from by rw [hg]; exact below_size HB.out); clear HB; have HB := n0_; clear n0_; have B1 := Aside0.mk hbox; clear hbox hb hg) | ((with_reducible refine gate_dst (N := 4) rfl ?_); refine box_event ?hg (N := 4) ?hd (cs := #[.int .i64 0, .int .i64 0, .int .i64 0]) (t := 24) ?hr ?_; (case hd => rfl); (case hg => rfl); (case hr => first | (go_simp; done) | (go_simp; rfl)); intro g2 hg w2 hbox hb; have n0_ := Aside0.mk (below_step HB.out hb); have G2 := Aside0.mk (show w.heap.size ≤ g2 from by rw [hg]; exact below_size HB.out); have N12 := (show g1 ≠ g2 from by rw [hg]; exact Nat.ne_of_lt (blk_lt B1.out)); have N21 := N12.symm; have b1_ := Aside0.mk (blk_below B1.out hb); clear HB B1; have HB := n0_; have B1 := b1_; clear n0_ b1_; have B2 := Aside0.mk hbox; clear hbox hb hg; have hf0 := blk_frozen B1.out 0; have hf1 := blk_frozen B1.out 1; have hf2 := blk_frozen B1.out 2; have hc0 : w2.cell? ⟨g1, 0, none⟩ = some (.int .i64 0) := (blk_cell B1.out 0).trans rfl; have hc1 : w2.cell? ⟨g1, 1, none⟩ = some (.int .i64 0) := (blk_cell B1.out 1).trans rfl; have hc2 : w2.cell? ⟨g1, 2, none⟩ = some (.int .i64 0) := (blk_cell B1.out 2).trans rfl; have kc0 : w2.cell? ⟨g2, 0, none⟩ = some (.int .i64 0) := (blk_cell B2.out 0).trans rfl; have kc1 : w2.cell? ⟨g2, 1, none⟩ = some (.int .i64 0) := (blk_cell B2.out 1).trans rfl; have kc2 : w2.cell? ⟨g2, 2, none⟩ = some (.int .i64 0) := (blk_cell B2.out 2).trans rfl) | (go_at_call 18; refine (arrearsref9_Turn.calls 50 a0 0 t0 _ E0.out).mono ?_; rintro e w' ⟨rfl, ⟨nd, rfl⟩⟩))
    refine bodyPost_ret (results_ct rfl _ _ g1 24 #[.int .i64 0, .int .i64 0, .int .i64 0] (0, 0) _ rfl (by
          (with_reducible repeat (first | refine blk_drewN ?_ _ | refine blk_drew ?_))
          refine blk_put (cs := #[.int .i64 0, .int .i64 0, .int .i64 0]) ?_ 2 _ rfl
          (with_reducible repeat (first | refine blk_drewN ?_ _ | refine blk_drew ?_))
          refine blk_put (cs := #[.int .i64 0, .int .i64 0, .int .i64 0]) ?_ 1 _ rfl
          (with_reducible repeat (first | refine blk_drewN ?_ _ | refine blk_drew ?_))
          refine blk_put (cs := #[.int .i64 0, .int .i64 0, .int .i64 0]) ?_ 0 _ rfl
          (with_reducible repeat (first | refine blk_drewN ?_ _ | refine blk_drew ?_))
          exact B1.out) Tryd.underlying24 rfl (by kernel_rfl)) rfl ?_
    exact ⟨rfl, by repeat (with_reducible first | exact HB.out | apply pw_below_drewN | apply below_drew1 | refine below_set ?_ G1.out | refine below_set ?_ G2.out)⟩
  · rw [if_neg c] at h
    obtain ⟨t1, e1, h⟩ := Option.bind_eq_some_iff.mp h
    obtain ⟨t2, e2, h⟩ := Option.bind_eq_some_iff.mp h
    have E1 := Aside0.mk e1
    have E2 := Aside0.mk e2
    have h := Option.some.inj h
    injection h with q1 h; injection h with q2 h; injection h with q3 q4
    subst q1 q2 q3 q4
    have d0 : decide (t0 < 0) = false := decide_eq_false c
    clear c e1 e2
    go_wp2_with (first | ((with_reducible refine gate_dst (N := 2) rfl ?_); refine box_event ?hg (N := 2) ?hd (cs := #[.int .i64 0, .int .i64 0, .int .i64 0]) (t := 24) ?hr ?_; (case hd => rfl); (case hg => rfl); (case hr => first | (go_simp; done) | (go_simp; rfl)); intro g1 hg w1 hbox hb; have n0_ := Aside0.mk (below_step HB.out hb); have G1 := Aside0.mk (show w.heap.size ≤ g1 from by rw [hg]; exact below_size HB.out); clear HB; have HB := n0_; clear n0_; have B1 := Aside0.mk hbox; clear hbox hb hg) | ((with_reducible refine gate_dst (N := 4) rfl ?_); refine box_event ?hg (N := 4) ?hd (cs := #[.int .i64 0, .int .i64 0, .int .i64 0]) (t := 24) ?hr ?_; (case hd => rfl); (case hg => rfl); (case hr => first | (go_simp; done) | (go_simp; rfl)); intro g2 hg w2 hbox hb; have n0_ := Aside0.mk (below_step HB.out hb); have G2 := Aside0.mk (show w.heap.size ≤ g2 from by rw [hg]; exact below_size HB.out); have N12 := (show g1 ≠ g2 from by rw [hg]; exact Nat.ne_of_lt (blk_lt B1.out)); have N21 := N12.symm; have b1_ := Aside0.mk (blk_below B1.out hb); clear HB B1; have HB := n0_; have B1 := b1_; clear n0_ b1_; have B2 := Aside0.mk hbox; clear hbox hb hg; have hf0 := blk_frozen B1.out 0; have hf1 := blk_frozen B1.out 1; have hf2 := blk_frozen B1.out 2; have hc0 : w2.cell? ⟨g1, 0, none⟩ = some (.int .i64 0) := (blk_cell B1.out 0).trans rfl; have hc1 : w2.cell? ⟨g1, 1, none⟩ = some (.int .i64 0) := (blk_cell B1.out 1).trans rfl; have hc2 : w2.cell? ⟨g1, 2, none⟩ = some (.int .i64 0) := (blk_cell B1.out 2).trans rfl; have kc0 : w2.cell? ⟨g2, 0, none⟩ = some (.int .i64 0) := (blk_cell B2.out 0).trans rfl; have kc1 : w2.cell? ⟨g2, 1, none⟩ = some (.int .i64 0) := (blk_cell B2.out 1).trans rfl; have kc2 : w2.cell? ⟨g2, 2, none⟩ = some (.int .i64 0) := (blk_cell B2.out 2).trans rfl) | (go_at_call 18; refine (arrearsref9_Turn.calls 50 a0 0 t0 _ E0.out).mono ?_; rintro e w' ⟨rfl, ⟨nd, rfl⟩⟩))
    replace B2 : Aside0 ((w2.drewN nd).heap[g2]? = some (.cells (arrearsref9_Order.row t0 t1 t2 0) 24 (0, 0))) := ⟨B2.out⟩
    replace B1 : Aside0 ((w2.drewN nd).heap[g1]? = some (.cells #[.int .i64 0, .int .i64 0, .int .i64 0] 24 (0, 0))) := ⟨B1.out⟩
    go_loopw [5] (fun i wr => ∃ n : Nat, n ≤ 3 ∧ i = .int .i64 n ∧ Aside0 (wr.heap[g2]? = some (.cells (arrearsref9_Order.row t0 t1 t2 n) 24 (0, 0))) ∧ Aside0 (wr.heap[g1]? = some (.cells #[.int .i64 0, .int .i64 0, .int .i64 0] 24 (0, 0))) ∧ Aside0 (Below w.heap.size w wr)) (fun i _ => 3 - (intOf i).toNat)
    case atStart => exact ⟨0, by omega, rfl, B2, B1, ⟨by repeat (with_reducible first | exact HB.out | apply pw_below_drewN | apply below_drew1 | refine below_set ?_ G1.out | refine below_set ?_ G2.out)⟩⟩
    case round =>
      clear B2 B1 HB
      obtain ⟨n, hn, rfl, B2, B1, HB⟩ := hrel
      have hn4 : n = 0 ∨ n = 1 ∨ n = 2 ∨ n = 3 := by omega
      rcases hn4 with rfl | rfl | rfl | rfl
      · have E := E0.out
        have f0 := blk_frozen B2.out 0
        have c0 : wr.cell? ⟨g2, 0, none⟩ = some (.int .i64 0) := (blk_cell B2.out 0).trans rfl
        clear E
        go_wp2_with (go_at_call 18; refine (arrearsref9_Turn.calls 50 a0 0 t0 _ E0.out).mono ?_; rintro e w' ⟨rfl, ⟨nd2, rfl⟩⟩)
        go_roundw
        case rel => exact ⟨1, by omega, by go_num, ⟨by refine blk_put (cs := arrearsref9_Order.row t0 t1 t2 0) ?_ 0 _ (by rfl); (with_reducible repeat (first | refine blk_drewN ?_ _ | refine blk_drew ?_)); exact B2.out⟩, ⟨by refine blk_far ?_ N12 _; (with_reducible repeat (first | refine blk_drewN ?_ _ | refine blk_drew ?_)); exact B1.out⟩, ⟨by repeat (with_reducible first | exact HB.out | apply pw_below_drewN | apply below_drew1 | refine below_set ?_ G1.out | refine below_set ?_ G2.out)⟩⟩
        case measure => first | (simp [intOf]; done) | (simp [intOf]; omega)
      · have E := E1.out
        have f1 := blk_frozen B2.out 1
        have c1 : wr.cell? ⟨g2, 1, none⟩ = some (.int .i64 0) := (blk_cell B2.out 1).trans rfl
        clear E
        go_wp2_with (go_at_call 18; refine (arrearsref9_Turn.calls 50 a0 1 t1 _ E1.out).mono ?_; rintro e w' ⟨rfl, ⟨nd2, rfl⟩⟩)
        go_roundw
        case rel => exact ⟨2, by omega, by go_num, ⟨by refine blk_put (cs := arrearsref9_Order.row t0 t1 t2 1) ?_ 1 _ (by rfl); (with_reducible repeat (first | refine blk_drewN ?_ _ | refine blk_drew ?_)); exact B2.out⟩, ⟨by refine blk_far ?_ N12 _; (with_reducible repeat (first | refine blk_drewN ?_ _ | refine blk_drew ?_)); exact B1.out⟩, ⟨by repeat (with_reducible first | exact HB.out | apply pw_below_drewN | apply below_drew1 | refine below_set ?_ G1.out | refine below_set ?_ G2.out)⟩⟩
        case measure => first | (simp [intOf]; done) | (simp [intOf]; omega)
      · have E := E2.out
        have f2 := blk_frozen B2.out 2
        have c2 : wr.cell? ⟨g2, 2, none⟩ = some (.int .i64 0) := (blk_cell B2.out 2).trans rfl
        clear E
        go_wp2_with (go_at_call 18; refine (arrearsref9_Turn.calls 50 a0 2 t2 _ E2.out).mono ?_; rintro e w' ⟨rfl, ⟨nd2, rfl⟩⟩)
        go_roundw
        case rel => exact ⟨3, by omega, by go_num, ⟨by refine blk_put (cs := arrearsref9_Order.row t0 t1 t2 2) ?_ 2 _ (by rfl); (with_reducible repeat (first | refine blk_drewN ?_ _ | refine blk_drew ?_)); exact B2.out⟩, ⟨by refine blk_far ?_ N12 _; (with_reducible repeat (first | refine blk_drewN ?_ _ | refine blk_drew ?_)); exact B1.out⟩, ⟨by repeat (with_reducible first | exact HB.out | apply pw_below_drewN | apply below_drew1 | refine below_set ?_ G1.out | refine below_set ?_ G2.out)⟩⟩
        case measure => first | (simp [intOf]; done) | (simp [intOf]; omega)
      · have f0 := blk_frozen B1.out 0
        have f1 := blk_frozen B1.out 1
        have f2 := blk_frozen B1.out 2
        have c0 : wr.cell? ⟨g2, 0, none⟩ = some (.int .i64 t0) := (blk_cell B2.out 0).trans rfl
        have c1 : wr.cell? ⟨g2, 1, none⟩ = some (.int .i64 t1) := (blk_cell B2.out 1).trans rfl
        have c2 : wr.cell? ⟨g2, 2, none⟩ = some (.int .i64 t2) := (blk_cell B2.out 2).trans rfl
        have c3 : wr.cell? ⟨g1, 0, none⟩ = some (.int .i64 0) := (blk_cell B1.out 0).trans rfl
        have c4 : wr.cell? ⟨g1, 1, none⟩ = some (.int .i64 0) := (blk_cell B1.out 1).trans rfl
        have c5 : wr.cell? ⟨g1, 2, none⟩ = some (.int .i64 0) := (blk_cell B1.out 2).trans rfl
        go_wp2
        refine bodyPost_ret (results_ct rfl _ _ g1 24 #[.int .i64 t0, .int .i64 t1, .int .i64 t2] (0, 0) _ rfl (by
          (with_reducible repeat (first | refine blk_drewN ?_ _ | refine blk_drew ?_))
          refine blk_put (cs := #[.int .i64 t0, .int .i64 t1, .int .i64 0]) ?_ 2 _ rfl
          (with_reducible repeat (first | refine blk_drewN ?_ _ | refine blk_drew ?_))
          refine blk_put (cs := #[.int .i64 t0, .int .i64 0, .int .i64 0]) ?_ 1 _ rfl
          (with_reducible repeat (first | refine blk_drewN ?_ _ | refine blk_drew ?_))
          refine blk_put (cs := #[.int .i64 0, .int .i64 0, .int .i64 0]) ?_ 0 _ rfl
          (with_reducible repeat (first | refine blk_drewN ?_ _ | refine blk_drew ?_))
          exact B1.out) Tryd.underlying24 rfl (by kernel_rfl)) rfl ?_
        exact ⟨rfl, by repeat (with_reducible first | exact HB.out | apply pw_below_drewN | apply below_drew1 | refine below_set ?_ G1.out | refine below_set ?_ G2.out)⟩

end Go.Proofs.YtleeifpdgnjbdaaDoor.G
