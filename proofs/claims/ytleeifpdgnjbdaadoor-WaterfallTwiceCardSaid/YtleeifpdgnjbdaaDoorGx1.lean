-- Written by stubprint.py (wip/) of this work, over the kit's print.py; parts by hand.
import Derived.Test.YtleeifpdgnjbdaaDoorGx0
namespace Go.Proofs.YtleeifpdgnjbdaaDoor.G
open Go.RowKit Go.Proofs.YtleeifpdgnjbdaaDoorW.PrintWords Go.Proofs.YtleeifpdgnjbdaaDoorW.PrintLast Go.Proofs.YtleeifpdgnjbdaaDoorW.PrintMore
attribute [local go_sem] max2_int min2_int max_two min_two max_three min_three max_four min_four   -- for this text's walks alone
set_option linter.unusedVariables false
set_option linter.unusedSimpArgs false

/-! ### waterfall_Order: function 7 (by hand) -/
def waterfall_Order.kind (o j : Int) : Int := (([3, 2, 1, 3, 1, 2, 2, 3, 1, 2, 1, 3, 1, 3, 2, 1, 2, 3] : List Int)).getD (o.toNat * 3 + j.toNat) 0
def waterfall_Order.f (a0 : Int) : Option (Int × Int × Int × Bool) := some (if a0 < 0 then (0, 0, 0, false) else if a0 ≥ 6 then (0, 0, 0, false) else (waterfall_Order.kind a0 0, waterfall_Order.kind a0 1, waterfall_Order.kind a0 2, true))
theorem waterfall_Order.cells (w : World) (hL : Laid w) (a0 : Int) (h0 : 0 ≤ a0) (h1 : a0 < 6) (j : Nat) (hj : j < 3) : w.cell? ⟨0, a0.toNat * 3 + j, none⟩ = some (.int .i64 (waterfall_Order.kind a0 (j : Int))) := by
  apply hL.at0
  have : a0 = 0 ∨ a0 = 1 ∨ a0 = 2 ∨ a0 = 3 ∨ a0 = 4 ∨ a0 = 5 := by omega
  have hj' : j = 0 ∨ j = 1 ∨ j = 2 := by omega
  rcases this with rfl | rfl | rfl | rfl | rfl | rfl <;> rcases hj' with rfl | rfl | rfl <;> rfl
set_option maxRecDepth 100000 in
set_option maxHeartbeats 1000000 in
theorem waterfall_Order.calls (a0 : Int) (r1 r2 r3 : Int) (r4 : Bool) (w : World) (hL : Laid w) (h : waterfall_Order.f a0 = some (r1, r2, r3, r4)) :
    Calls Tryd.prog 7 #[.int .i64 a0] w fun e w' => e = .returned (.tuple #[.agg #[.int .i64 r1, .int .i64 r2, .int .i64 r3], .bool r4]) ∧ Below w.heap.size w w' := by
  have HL := Aside0.mk hL
  have hu24 := Tryd.underlying24
  have hu46 := Tryd.underlying46
  unfold waterfall_Order.f at h
  have h := Option.some.inj h
  clear hL
  by_cases c0 : a0 < 0
  · rw [if_pos c0] at h
    injection h with e1 h; injection h with e2 h; injection h with e3 e4
    subst e1 e2 e3 e4
    have d0 : decide (a0 < 0) = true := decide_eq_true c0
    clear c0
    go_enter Tryd.func7, Tryd.ntmps7
    go_wp2_with (first | ((with_reducible refine gate_dst (N := 2) rfl ?_); refine box_event ?hg (N := 2) ?hd (cs := #[.int .i64 0, .int .i64 0, .int .i64 0]) (t := 24) ?hr ?_; (case hd => rfl); (case hg => rfl); (case hr => first | (go_simp; done) | (go_simp; rfl)); intro gb hg w1 hbox hb; have BK := Aside0.mk hbox; have GE := Aside0.mk (show w.heap.size ≤ gb from by rw [hg]; exact Nat.le_refl _); have HB := Aside0.mk hb; clear hbox hb hg; have hf0 := blk_frozen BK.out 0; have hf1 := blk_frozen BK.out 1; have hf2 := blk_frozen BK.out 2; have hc0 : w1.cell? ⟨gb, 0, none⟩ = some (.int .i64 0) := (blk_cell BK.out 0).trans rfl; have hc1 : w1.cell? ⟨gb, 1, none⟩ = some (.int .i64 0) := (blk_cell BK.out 1).trans rfl; have hc2 : w1.cell? ⟨gb, 2, none⟩ = some (.int .i64 0) := (blk_cell BK.out 2).trans rfl))
    refine bodyPost_ret (results_ct rfl _ _ gb 24 #[.int .i64 0, .int .i64 0, .int .i64 0] (0, 0) _ rfl (by
      (with_reducible repeat (first | refine blk_drewN ?_ _ | refine blk_drew ?_))
      refine blk_put (cs := #[.int .i64 0, .int .i64 0, .int .i64 0]) ?_ 2 _ rfl
      (with_reducible repeat (first | refine blk_drewN ?_ _ | refine blk_drew ?_))
      refine blk_put (cs := #[.int .i64 0, .int .i64 0, .int .i64 0]) ?_ 1 _ rfl
      (with_reducible repeat (first | refine blk_drewN ?_ _ | refine blk_drew ?_))
      refine blk_put (cs := #[.int .i64 0, .int .i64 0, .int .i64 0]) ?_ 0 _ rfl
      (with_reducible repeat (first | refine blk_drewN ?_ _ | refine blk_drew ?_))
      exact BK.out) Tryd.underlying24 rfl (by kernel_rfl)) rfl ?_
    exact ⟨rfl, by repeat (with_reducible first | exact HB.out | apply pw_below_drewN | apply below_drew1 | refine below_set ?_ GE.out)⟩
  · have d0 : decide (a0 < 0) = false := decide_eq_false c0
    rw [if_neg c0] at h
    by_cases c6 : a0 ≥ 6
    · rw [if_pos c6] at h
      injection h with e1 h; injection h with e2 h; injection h with e3 e4
      subst e1 e2 e3 e4
      have d6 : decide (6 ≤ a0) = true := decide_eq_true c6
      clear c6
      go_enter Tryd.func7, Tryd.ntmps7
      go_wp2_with (first | ((with_reducible refine gate_dst (N := 2) rfl ?_); refine box_event ?hg (N := 2) ?hd (cs := #[.int .i64 0, .int .i64 0, .int .i64 0]) (t := 24) ?hr ?_; (case hd => rfl); (case hg => rfl); (case hr => first | (go_simp; done) | (go_simp; rfl)); intro gb hg w1 hbox hb; have BK := Aside0.mk hbox; have GE := Aside0.mk (show w.heap.size ≤ gb from by rw [hg]; exact Nat.le_refl _); have HB := Aside0.mk hb; clear hbox hb hg; have hf0 := blk_frozen BK.out 0; have hf1 := blk_frozen BK.out 1; have hf2 := blk_frozen BK.out 2; have hc0 : w1.cell? ⟨gb, 0, none⟩ = some (.int .i64 0) := (blk_cell BK.out 0).trans rfl; have hc1 : w1.cell? ⟨gb, 1, none⟩ = some (.int .i64 0) := (blk_cell BK.out 1).trans rfl; have hc2 : w1.cell? ⟨gb, 2, none⟩ = some (.int .i64 0) := (blk_cell BK.out 2).trans rfl))
      refine bodyPost_ret (results_ct rfl _ _ gb 24 #[.int .i64 0, .int .i64 0, .int .i64 0] (0, 0) _ rfl (by
        (with_reducible repeat (first | refine blk_drewN ?_ _ | refine blk_drew ?_))
        refine blk_put (cs := #[.int .i64 0, .int .i64 0, .int .i64 0]) ?_ 2 _ rfl
        (with_reducible repeat (first | refine blk_drewN ?_ _ | refine blk_drew ?_))
        refine blk_put (cs := #[.int .i64 0, .int .i64 0, .int .i64 0]) ?_ 1 _ rfl
        (with_reducible repeat (first | refine blk_drewN ?_ _ | refine blk_drew ?_))
        refine blk_put (cs := #[.int .i64 0, .int .i64 0, .int .i64 0]) ?_ 0 _ rfl
        (with_reducible repeat (first | refine blk_drewN ?_ _ | refine blk_drew ?_))
        exact BK.out) Tryd.underlying24 rfl (by kernel_rfl)) rfl ?_
      exact ⟨rfl, by repeat (with_reducible first | exact HB.out | apply pw_below_drewN | apply below_drew1 | refine below_set ?_ GE.out)⟩
    · rw [if_neg c6] at h
      injection h with e1 h; injection h with e2 h; injection h with e3 e4
      have d6 : decide (6 ≤ a0) = false := decide_eq_false (by omega)
      have t0 : w.cell? ⟨0, a0.toNat * 3, none⟩ = some (.int .i64 (waterfall_Order.kind a0 0)) := waterfall_Order.cells w HL.out a0 (by omega) (by omega) 0 (by omega)
      have t1 : w.cell? ⟨0, a0.toNat * 3 + 1, none⟩ = some (.int .i64 (waterfall_Order.kind a0 1)) := waterfall_Order.cells w HL.out a0 (by omega) (by omega) 1 (by omega)
      have t2 : w.cell? ⟨0, a0.toNat * 3 + 2, none⟩ = some (.int .i64 (waterfall_Order.kind a0 2)) := waterfall_Order.cells w HL.out a0 (by omega) (by omega) 2 (by omega)
      have E := Aside0.mk (And.intro e1 (And.intro e2 e3))
      subst e4
      have p0 := eq_true (show 0 ≤ a0 by omega)
      have p6 := eq_true (show a0 < 6 by omega)
      have p6' := eq_true (show a0.toNat < 6 by omega)
      clear c0 c6 e1 e2 e3
      go_enter Tryd.func7, Tryd.ntmps7
      go_wp2_with (first | ((with_reducible refine gate_dst (N := 2) rfl ?_); refine box_event ?hg (N := 2) ?hd (cs := #[.int .i64 0, .int .i64 0, .int .i64 0]) (t := 24) ?hr ?_; (case hd => rfl); (case hg => rfl); (case hr => first | (go_simp; done) | (go_simp; rfl)); intro gb hg w1 hbox hb; have BK := Aside0.mk hbox; have GE := Aside0.mk (show w.heap.size ≤ gb from by rw [hg]; exact Nat.le_refl _); have HB := Aside0.mk hb; replace t0 := (hb.cell (World.block_lt_of_cell? w _ t0)).trans t0; replace t1 := (hb.cell (World.block_lt_of_cell? w _ t1)).trans t1; replace t2 := (hb.cell (World.block_lt_of_cell? w _ t2)).trans t2; clear hbox hb hg; have hf0 := blk_frozen BK.out 0; have hf1 := blk_frozen BK.out 1; have hf2 := blk_frozen BK.out 2; have hc0 : w1.cell? ⟨gb, 0, none⟩ = some (.int .i64 0) := (blk_cell BK.out 0).trans rfl; have hc1 : w1.cell? ⟨gb, 1, none⟩ = some (.int .i64 0) := (blk_cell BK.out 1).trans rfl; have hc2 : w1.cell? ⟨gb, 2, none⟩ = some (.int .i64 0) := (blk_cell BK.out 2).trans rfl))
      refine bodyPost_ret (results_ct rfl _ _ gb 24 #[.int .i64 (waterfall_Order.kind a0 0), .int .i64 (waterfall_Order.kind a0 1), .int .i64 (waterfall_Order.kind a0 2)] (0, 0) _ rfl (by
        (with_reducible repeat (first | refine blk_drewN ?_ _ | refine blk_drew ?_))
        refine blk_put (cs := #[.int .i64 (waterfall_Order.kind a0 0), .int .i64 (waterfall_Order.kind a0 1), .int .i64 0]) ?_ 2 _ rfl
        (with_reducible repeat (first | refine blk_drewN ?_ _ | refine blk_drew ?_))
        refine blk_put (cs := #[.int .i64 (waterfall_Order.kind a0 0), .int .i64 0, .int .i64 0]) ?_ 1 _ rfl
        (with_reducible repeat (first | refine blk_drewN ?_ _ | refine blk_drew ?_))
        refine blk_put (cs := #[.int .i64 0, .int .i64 0, .int .i64 0]) ?_ 0 _ rfl
        (with_reducible repeat (first | refine blk_drewN ?_ _ | refine blk_drew ?_))
        exact BK.out) Tryd.underlying24 rfl (by kernel_rfl)) rfl ?_
      exact ⟨by rw [← E.out.1, ← E.out.2.1, ← E.out.2.2]; rfl, by repeat (with_reducible first | exact HB.out | apply pw_below_drewN | apply below_drew1 | refine below_set ?_ GE.out)⟩

end Go.Proofs.YtleeifpdgnjbdaaDoor.G
