-- Written by stubprint.py (wip/) of this work, over the kit's print.py; parts by hand.
import Derived.Test.YtleeifpdgnjbdaaDoorGx0
import Derived.Test.YtleeifpdgnjbdaaDoorGx2
namespace Go.Proofs.YtleeifpdgnjbdaaDoor.G
open Go.RowKit Go.Proofs.YtleeifpdgnjbdaaDoorW.PrintWords Go.Proofs.YtleeifpdgnjbdaaDoorW.PrintLast Go.Proofs.YtleeifpdgnjbdaaDoorW.PrintMore
attribute [local go_sem] max2_int min2_int max_two min_two max_three min_three max_four min_four   -- for this text's walks alone
set_option linter.unusedVariables false
set_option linter.unusedSimpArgs false

/-! ### arrearsref9_Order: function 8 (by hand) -/
def arrearsref9_Order.f (a0 : Int) : Option (Int × Int × Int × Bool) := (arrearsref9_Turn.f 50 a0 0).bind fun t0 => if t0 < 0 then some (0, 0, 0, false) else (arrearsref9_Turn.f 50 a0 1).bind fun t1 => (arrearsref9_Turn.f 50 a0 2).bind fun t2 => some (t0, t1, t2, true)
def arrearsref9_Order.row (t0 t1 t2 : Int) (n : Nat) : Array Value := #[.int .i64 (if 0 < n then t0 else 0), .int .i64 (if 1 < n then t1 else 0), .int .i64 (if 2 < n then t2 else 0)]
set_option maxRecDepth 100000 in
set_option maxHeartbeats 1000000 in
theorem arrearsref9_Order.calls (a0 : Int) (r1 r2 r3 : Int) (r4 : Bool) (w : World) (h : arrearsref9_Order.f a0 = some (r1, r2, r3, r4)) :
    Calls Tryd.prog 8 #[.int .i64 a0] w fun e w' => e = .returned (.tuple #[.agg #[.int .i64 r1, .int .i64 r2, .int .i64 r3], .bool r4]) ∧ Below w.heap.size w w' := by
  have hu24 := Tryd.underlying24
  have HB := Aside0.mk (Below.refl w.heap.size w)
  unfold arrearsref9_Order.f at h
  obtain ⟨t0, e0, h⟩ := Option.bind_eq_some_iff.mp h
  have E0 := Aside0.mk e0
  clear e0
  go_enter Tryd.func8, Tryd.ntmps8
  by_cases c : t0 < 0
  · rw [if_pos c] at h
    have h := Option.some.inj h
    injection h with e1 h; injection h with e2 h; injection h with e3 e4
    subst e1 e2 e3 e4
    have d0 : decide (t0 < 0) = true := decide_eq_true c
    clear c
    go_wp2_with (first | ((with_reducible refine gate_dst (N := 2) rfl ?_); refine box_event ?hg (N := 2) ?hd (cs := #[.int .i64 0, .int .i64 0, .int .i64 0]) (t := 24) ?hr ?_; (case hd => rfl); (case hg => rfl); (case hr => first | (go_simp; done) | (go_simp; rfl)); intro g1 hg w1 hbox hb; have n0_ := Aside0.mk (below_step HB.out hb); have G1 := Aside0.mk (show w.heap.size ≤ g1 from by rw [hg]; exact below_size HB.out); clear HB; have HB := n0_; clear n0_; have B1 := Aside0.mk hbox; clear hbox hb hg) | ((with_reducible refine gate_dst (N := 4) rfl ?_); refine box_event ?hg (N := 4) ?hd (cs := #[.int .i64 0, .int .i64 0, .int .i64 0]) (t := 24) ?hr ?_; (case hd => rfl); (case hg => rfl); (case hr => first | (go_simp; done) | (go_simp; rfl)); intro g2 hg w2 hbox hb; have n0_ := Aside0.mk (below_step HB.out hb); have G2 := Aside0.mk (show w.heap.size ≤ g2 from by rw [hg]; exact below_size HB.out); have N12 := (show g1 ≠ g2 from by rw [hg]; exact Nat.ne_of_lt (blk_lt B1.out)); have N21 := N12.symm; have b1_ := Aside0.mk (blk_below B1.out hb); clear HB B1; have HB := n0_; have B1 := b1_; clear n0_ b1_; have B2 := Aside0.mk hbox; clear hbox hb hg; have hf0 := blk_frozen B1.out 0; have hf1 := blk_frozen B1.out 1; have hf2 := blk_frozen B1.out 2; have hc0 : w2.cell? ⟨g1, 0, none⟩ = some (.int .i64 0) := (blk_cell B1.out 0).trans rfl; have hc1 : w2.cell? ⟨g1, 1, none⟩ = some (.int .i64 0) := (blk_cell B1.out 1).trans rfl; have hc2 : w2.cell? ⟨g1, 2, none⟩ = some (.int .i64 0) := (blk_cell B1.out 2).trans rfl; have kc0 : w2.cell? ⟨g2, 0, none⟩ = some (.int .i64 0) := (blk_cell B2.out 0).trans rfl; have kc1 : w2.cell? ⟨g2, 1, none⟩ = some (.int .i64 0) := (blk_cell B2.out 1).trans rfl; have kc2 : w2.cell? ⟨g2, 2, none⟩ = some (.int .i64 0) := (blk_cell B2.out 2).trans rfl) | (go_at_call 18; refine (arrearsref9_Turn.calls 50 a0 0 t0 _ E0.out).mono ?_; rintro e w' ⟨rfl, ⟨nd, rfl⟩⟩))
    refine bodyPost_ret (results_ct rfl _ _ g1 24 #[.int .i64 0, .int .i64 0, .int .i64 0] (0, 0) _ rfl (by
          (with_reducible repeat (first | refine blk_drewN ?_ _ | refine blk_drew ?_))
          refine blk_put (cs := #[.int .i64 0, .int .i64 0, .int .i64 0]) ?_ 2 _ rfl
          (with_reducible repeat (first | refine blk_drewN ?_ _ | refine blk_drew ?_))
          refine blk_put (cs := #[.int .i64 0, .int .i64 0, .int .i64 0]) ?_ 1 _ rfl
          (with_reducible repeat (first | refine blk_drewN ?_ _ | refine blk_drew ?_))
          refine blk_put (cs := #[.int .i64 0, .int .i64 0, .int .i64 0]) ?_ 0 _ rfl
          (with_reducible repeat (first | refine blk_drewN ?_ _ | refine blk_drew ?_))
          exact B1.out) Tryd.underlying24 rfl (by kernel_rfl)) rfl ?_
    exact ⟨rfl, by repeat (with_reducible first | exact HB.out | apply pw_below_drewN | apply below_drew1 | refine below_set ?_ G1.out | refine below_set ?_ G2.out)⟩
  · rw [if_neg c] at h
    obtain ⟨t1, e1, h⟩ := Option.bind_eq_some_iff.mp h
    obtain ⟨t2, e2, h⟩ := Option.bind_eq_some_iff.mp h
    have E1 := Aside0.mk e1
    have E2 := Aside0.mk e2
    have h := Option.some.inj h
    injection h with q1 h; injection h with q2 h; injection h with q3 q4
    subst q1 q2 q3 q4
    have d0 : decide (t0 < 0) = false := decide_eq_false c
    clear c e1 e2
    go_wp2_with (first | ((with_reducible refine gate_dst (N := 2) rfl ?_); refine box_event ?hg (N := 2) ?hd (cs := #[.int .i64 0, .int .i64 0, .int .i64 0]) (t := 24) ?hr ?_; (case hd => rfl); (case hg => rfl); (case hr => first | (go_simp; done) | (go_simp; rfl)); intro g1 hg w1 hbox hb; have n0_ := Aside0.mk (below_step HB.out hb); have G1 := Aside0.mk (show w.heap.size ≤ g1 from by rw [hg]; exact below_size HB.out); clear HB; have HB := n0_; clear n0_; have B1 := Aside0.mk hbox; clear hbox hb hg) | ((with_reducible refine gate_dst (N := 4) rfl ?_); refine box_event ?hg (N := 4) ?hd (cs := #[.int .i64 0, .int .i64 0, .int .i64 0]) (t := 24) ?hr ?_; (case hd => rfl); (case hg => rfl); (case hr => first | (go_simp; done) | (go_simp; rfl)); intro g2 hg w2 hbox hb; have n0_ := Aside0.mk (below_step HB.out hb); have G2 := Aside0.mk (show w.heap.size ≤ g2 from by rw [hg]; exact below_size HB.out); have N12 := (show g1 ≠ g2 from by rw [hg]; exact Nat.ne_of_lt (blk_lt B1.out)); have N21 := N12.symm; have b1_ := Aside0.mk (blk_below B1.out hb); clear HB B1; have HB := n0_; have B1 := b1_; clear n0_ b1_; have B2 := Aside0.mk hbox; clear hbox hb hg; have hf0 := blk_frozen B1.out 0; have hf1 := blk_frozen B1.out 1; have hf2 := blk_frozen B1.out 2; have hc0 : w2.cell? ⟨g1, 0, none⟩ = some (.int .i64 0) := (blk_cell B1.out 0).trans rfl; have hc1 : w2.cell? ⟨g1, 1, none⟩ = some (.int .i64 0) := (blk_cell B1.out 1).trans rfl; have hc2 : w2.cell? ⟨g1, 2, none⟩ = some (.int .i64 0) := (blk_cell B1.out 2).trans rfl; have kc0 : w2.cell? ⟨g2, 0, none⟩ = some (.int .i64 0) := (blk_cell B2.out 0).trans rfl; have kc1 : w2.cell? ⟨g2, 1, none⟩ = some (.int .i64 0) := (blk_cell B2.out 1).trans rfl; have kc2 : w2.cell? ⟨g2, 2, none⟩ = some (.int .i64 0) := (blk_cell B2.out 2).trans rfl) | (go_at_call 18; refine (arrearsref9_Turn.calls 50 a0 0 t0 _ E0.out).mono ?_; rintro e w' ⟨rfl, ⟨nd, rfl⟩⟩))
    replace B2 : Aside0 ((w2.drewN nd).heap[g2]? = some (.cells (arrearsref9_Order.row t0 t1 t2 0) 24 (0, 0))) := ⟨B2.out⟩
    replace B1 : Aside0 ((w2.drewN nd).heap[g1]? = some (.cells #[.int .i64 0, .int .i64 0, .int .i64 0] 24 (0, 0))) := ⟨B1.out⟩
    go_loopw [5] (fun i wr => ∃ n : Nat, n ≤ 3 ∧ i = .int .i64 n ∧ Aside0 (wr.heap[g2]? = some (.cells (arrearsref9_Order.row t0 t1 t2 n) 24 (0, 0))) ∧ Aside0 (wr.heap[g1]? = some (.cells #[.int .i64 0, .int .i64 0, .int .i64 0] 24 (0, 0))) ∧ Aside0 (Below w.heap.size w wr)) (fun i _ => 3 - (intOf i).toNat)
    case atStart => exact ⟨0, by omega, rfl, B2, B1, ⟨by repeat (with_reducible first | exact HB.out | apply pw_below_drewN | apply below_drew1 | refine below_set ?_ G1.out | refine below_set ?_ G2.out)⟩⟩
    case round =>
      clear B2 B1 HB
      obtain ⟨n, hn, rfl, B2, B1, HB⟩ := hrel
      have hn4 : n = 0 ∨ n = 1 ∨ n = 2 ∨ n = 3 := by omega
      rcases hn4 with rfl | rfl | rfl | rfl
      · have E := E0.out
        have f0 := blk_frozen B2.out 0
        have c0 : wr.cell? ⟨g2, 0, none⟩ = some (.int .i64 0) := (blk_cell B2.out 0).trans rfl
        clear E
        go_wp2_with (go_at_call 18; refine (arrearsref9_Turn.calls 50 a0 0 t0 _ E0.out).mono ?_; rintro e w' ⟨rfl, ⟨nd2, rfl⟩⟩)
        go_roundw
        case rel => exact ⟨1, by omega, by go_num, ⟨by refine blk_put (cs := arrearsref9_Order.row t0 t1 t2 0) ?_ 0 _ (by rfl); (with_reducible repeat (first | refine blk_drewN ?_ _ | refine blk_drew ?_)); exact B2.out⟩, ⟨by refine blk_far ?_ N12 _; (with_reducible repeat (first | refine blk_drewN ?_ _ | refine blk_drew ?_)); exact B1.out⟩, ⟨by repeat (with_reducible first | exact HB.out | apply pw_below_drewN | apply below_drew1 | refine below_set ?_ G1.out | refine below_set ?_ G2.out)⟩⟩
        case measure => first | (simp [intOf]; done) | (simp [intOf]; omega)
      · have E := E1.out
        have f1 := blk_frozen B2.out 1
        have c1 : wr.cell? ⟨g2, 1, none⟩ = some (.int .i64 0) := (blk_cell B2.out 1).trans rfl
        clear E
        go_wp2_with (go_at_call 18; refine (arrearsref9_Turn.calls 50 a0 1 t1 _ E1.out).mono ?_; rintro e w' ⟨rfl, ⟨nd2, rfl⟩⟩)
        go_roundw
        case rel => exact ⟨2, by omega, by go_num, ⟨by refine blk_put (cs := arrearsref9_Order.row t0 t1 t2 1) ?_ 1 _ (by rfl); (with_reducible repeat (first | refine blk_drewN ?_ _ | refine blk_drew ?_)); exact B2.out⟩, ⟨by refine blk_far ?_ N12 _; (with_reducible repeat (first | refine blk_drewN ?_ _ | refine blk_drew ?_)); exact B1.out⟩, ⟨by repeat (with_reducible first | exact HB.out | apply pw_below_drewN | apply below_drew1 | refine below_set ?_ G1.out | refine below_set ?_ G2.out)⟩⟩
        case measure => first | (simp [intOf]; done) | (simp [intOf]; omega)
      · have E := E2.out
        have f2 := blk_frozen B2.out 2
        have c2 : wr.cell? ⟨g2, 2, none⟩ = some (.int .i64 0) := (blk_cell B2.out 2).trans rfl
        clear E
        go_wp2_with (go_at_call 18; refine (arrearsref9_Turn.calls 50 a0 2 t2 _ E2.out).mono ?_; rintro e w' ⟨rfl, ⟨nd2, rfl⟩⟩)
        go_roundw
        case rel => exact ⟨3, by omega, by go_num, ⟨by refine blk_put (cs := arrearsref9_Order.row t0 t1 t2 2) ?_ 2 _ (by rfl); (with_reducible repeat (first | refine blk_drewN ?_ _ | refine blk_drew ?_)); exact B2.out⟩, ⟨by refine blk_far ?_ N12 _; (with_reducible repeat (first | refine blk_drewN ?_ _ | refine blk_drew ?_)); exact B1.out⟩, ⟨by repeat (with_reducible first | exact HB.out | apply pw_below_drewN | apply below_drew1 | refine below_set ?_ G1.out | refine below_set ?_ G2.out)⟩⟩
        case measure => first | (simp [intOf]; done) | (simp [intOf]; omega)
      · have f0 := blk_frozen B1.out 0
        have f1 := blk_frozen B1.out 1
        have f2 := blk_frozen B1.out 2
        have c0 : wr.cell? ⟨g2, 0, none⟩ = some (.int .i64 t0) := (blk_cell B2.out 0).trans rfl
        have c1 : wr.cell? ⟨g2, 1, none⟩ = some (.int .i64 t1) := (blk_cell B2.out 1).trans rfl
        have c2 : wr.cell? ⟨g2, 2, none⟩ = some (.int .i64 t2) := (blk_cell B2.out 2).trans rfl
        have c3 : wr.cell? ⟨g1, 0, none⟩ = some (.int .i64 0) := (blk_cell B1.out 0).trans rfl
        have c4 : wr.cell? ⟨g1, 1, none⟩ = some (.int .i64 0) := (blk_cell B1.out 1).trans rfl
        have c5 : wr.cell? ⟨g1, 2, none⟩ = some (.int .i64 0) := (blk_cell B1.out 2).trans rfl
        go_wp2
        refine bodyPost_ret (results_ct rfl _ _ g1 24 #[.int .i64 t0, .int .i64 t1, .int .i64 t2] (0, 0) _ rfl (by
          (with_reducible repeat (first | refine blk_drewN ?_ _ | refine blk_drew ?_))
          refine blk_put (cs := #[.int .i64 t0, .int .i64 t1, .int .i64 0]) ?_ 2 _ rfl
          (with_reducible repeat (first | refine blk_drewN ?_ _ | refine blk_drew ?_))
          refine blk_put (cs := #[.int .i64 t0, .int .i64 0, .int .i64 0]) ?_ 1 _ rfl
          (with_reducible repeat (first | refine blk_drewN ?_ _ | refine blk_drew ?_))
          refine blk_put (cs := #[.int .i64 0, .int .i64 0, .int .i64 0]) ?_ 0 _ rfl
          (with_reducible repeat (first | refine blk_drewN ?_ _ | refine blk_drew ?_))
          exact B1.out) Tryd.underlying24 rfl (by kernel_rfl)) rfl ?_
        exact ⟨rfl, by repeat (with_reducible first | exact HB.out | apply pw_below_drewN | apply below_drew1 | refine below_set ?_ G1.out | refine below_set ?_ G2.out)⟩

end Go.Proofs.YtleeifpdgnjbdaaDoor.G
