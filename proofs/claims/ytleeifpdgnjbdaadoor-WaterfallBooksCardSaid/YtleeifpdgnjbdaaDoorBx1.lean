-- Written by stubprint.py (wip/) of this work, over the kit's print.py; parts by hand.
import Derived.Test.YtleeifpdgnjbdaaDoorBx0
namespace Go.Proofs.YtleeifpdgnjbdaaDoor.B
open Go.RowKit Go.Proofs.YtleeifpdgnjbdaaDoorW.PrintWords Go.Proofs.YtleeifpdgnjbdaaDoorW.PrintLast Go.Proofs.YtleeifpdgnjbdaaDoorW.PrintMore
attribute [local go_sem] max2_int min2_int max_two min_two max_three min_three max_four min_four   -- for this text's walks alone
set_option linter.unusedVariables false
set_option linter.unusedSimpArgs false

/-! ### waterfall_Order: function 7 (by hand) -/
def waterfall_Order.kind (o j : Int) : Int := (([3, 2, 1, 3, 1, 2, 2, 3, 1, 2, 1, 3, 1, 3, 2, 1, 2, 3] : List Int)).getD (o.toNat * 3 + j.toNat) 0
def waterfall_Order.f (a0 : Int) : Option (Int × Int × Int × Bool) := some (if a0 < 0 then (0, 0, 0, false) else if a0 ≥ 6 then (0, 0, 0, false) else (waterfall_Order.kind a0 0, waterfall_Order.kind a0 1, waterfall_Order.kind a0 2, true))
theorem waterfall_Order.cells (w : World) (hL : Laid w) (a0 : Int) (h0 : 0 ≤ a0) (h1 : a0 < 6) (j : Nat) (hj : j < 3) : w.cell? ⟨0, a0.toNat * 3 + j, none⟩ = some (.int .i64 (waterfall_Order.kind a0 (j : Int))) := by
  apply hL.at0
  have : a0 = 0 ∨ a0 = 1 ∨ a0 = 2 ∨ a0 = 3 ∨ a0 = 4 ∨ a0 = 5 := by omega
  have hj' : j = 0 ∨ j = 1 ∨ j = 2 := by omega
  rcases this with rfl | rfl | rfl | rfl | rfl | rfl <;> rcases hj' with rfl | rfl | rfl <;> rfl
set_option maxRecDepth 100000 in
set_option maxHeartbeats 1000000 in
theorem waterfall_Order.calls (a0 : Int) (r1 r2 r3 : Int) (r4 : Bool) (w : World) (hL : Laid w) (h : waterfall_Order.f a0 = some (r1, r2, r3, r4)) :
    Calls Tryd.prog 7 #[.int .i64 a0] w fun e w' => e = .returned (.tuple #[.agg #[.int .i64 r1, .int .i64 r2, .int .i64 r3], .bool r4]) ∧ Below w.heap.size w w' := by
  have HL := Aside0.mk hL
  have hu24 := Tryd.underlying24
  have hu46 := Tryd.underlying46
  unfold waterfall_Order.f at h
  have h := Option.some.inj h
  clear hL
  by_cases c0 : a0 < 0
  · rw [if_pos c0] at h
    injection h with e1 h; injection h with e2 h; injection h with e3 e4
    subst e1 e2 e3 e4
    have d0 : decide (a0 < 0) = true := decide_eq_true c0
    clear c0
    go_enter Tryd.func7, Tryd.ntmps7
    go_wp2_with (first | ((with_reducible refine gate_dst (N := 2) rfl ?_); refine box_event ?hg (N := 2) ?hd (cs := #[.int .i64 0, .int .i64 0, .int .i64 0]) (t := 24) ?hr ?_; (case hd => rfl); (case hg => rfl); (case hr => first | (go_simp; done) | (go_simp; rfl)); intro gb hg w1 hbox hb; have BK := Aside0.mk hbox; have GE := Aside0.mk (show w.heap.size ≤ gb from by rw [hg]; exact Nat.le_refl _); have HB := Aside0.mk hb; clear hbox hb hg; have hf0 := blk_frozen BK.out 0; have hf1 := blk_frozen BK.out 1; have hf2 := blk_frozen BK.out 2; have hc0 : w1.cell? ⟨gb, 0, none⟩ = some (.int .i64 0) := (blk_cell BK.out 0).trans rfl; have hc1 : w1.cell? ⟨gb, 1, none⟩ = some (.int .i64 0) := (blk_cell BK.out 1).trans rfl; have hc2 : w1.cell? ⟨gb, 2, none⟩ = some (.int .i64 0) := (blk_cell BK.out 2).trans rfl))
    refine bodyPost_ret (results_ct rfl _ _ gb 24 #[.int .i64 0, .int .i64 0, .int .i64 0] (0, 0) _ rfl (by
      (with_reducible repeat (first | refine blk_drewN ?_ _ | refine blk_drew ?_))
      refine blk_put (cs := #[.int .i64 0, .int .i64 0, .int .i64 0]) ?_ 2 _ rfl
      (with_reducible repeat (first | refine blk_drewN ?_ _ | refine blk_drew ?_))
      refine blk_put (cs := #[.int .i64 0, .int .i64 0, .int .i64 0]) ?_ 1 _ rfl
      (with_reducible repeat (first | refine blk_drewN ?_ _ | refine blk_drew ?_))
      refine blk_put (cs := #[.int .i64 0, .int .i64 0, .int .i64 0]) ?_ 0 _ rfl
      (with_reducible repeat (first | refine blk_drewN ?_ _ | refine blk_drew ?_))
      exact BK.out) Tryd.underlying24 rfl (by kernel_rfl)) rfl ?_
    exact ⟨rfl, by repeat (with_reducible first | exact HB.out | apply pw_below_drewN | apply below_drew1 | refine below_set ?_ GE.out)⟩
  · have d0 : decide (a0 < 0) = false := decide_eq_false c0
    rw [if_neg c0] at h
    by_cases c6 : a0 ≥ 6
    · rw [if_pos c6] at h
      injection h with e1 h; injection h with e2 h; injection h with e3 e4
      subst e1 e2 e3 e4
      have d6 : decide (6 ≤ a0) = true := decide_eq_true c6
      clear c6
      go_enter Tryd.func7, Tryd.ntmps7
      go_wp2_with (first | ((with_reducible refine gate_dst (N := 2) rfl ?_); refine box_event ?hg (N := 2) ?hd (cs := #[.int .i64 0, .int .i64 0, .int .i64 0]) (t := 24) ?hr ?_; (case hd => rfl); (case hg => rfl); (case hr => first | (go_simp; done) | (go_simp; rfl)); intro gb hg w1 hbox hb; have BK := Aside0.mk hbox; have GE := Aside0.mk (show w.heap.size ≤ gb from by rw [hg]; exact Nat.le_refl _); have HB := Aside0.mk hb; clear hbox hb hg; have hf0 := blk_frozen BK.out 0; have hf1 := blk_frozen BK.out 1; have hf2 := blk_frozen BK.out 2; have hc0 : w1.cell? ⟨gb, 0, none⟩ = some (.int .i64 0) := (blk_cell BK.out 0).trans rfl; have hc1 : w1.cell? ⟨gb, 1, none⟩ = some (.int .i64 0) := (blk_cell BK.out 1).trans rfl; have hc2 : w1.cell? ⟨gb, 2, none⟩ = some (.int .i64 0) := (blk_cell BK.out 2).trans rfl))
      refine bodyPost_ret (results_ct rfl _ _ gb 24 #[.int .i64 0, .int .i64 0, .int .i64 0] (0, 0) _ rfl (by
        (with_reducible repeat (first | refine blk_drewN ?_ _ | refine blk_drew ?_))
        refine blk_put (cs := #[.int .i64 0, .int .i64 0, .int .i64 0]) ?_ 2 _ rfl
        (with_reducible repeat (first | refine blk_drewN ?_ _ | refine blk_drew ?_))
        refine blk_put (cs := #[.int .i64 0, .int .i64 0, .int .i64 0]) ?_ 1 _ rfl
        (with_reducible repeat (first | refine blk_drewN ?_ _ | refine blk_drew ?_))
        refine blk_put (cs := #[.int .i64 0, .int .i64 0, .int .i64 0]) ?_ 0 _ rfl
        (with_reducible repeat (first | refine blk_drewN ?_ _ | refine blk_drew ?_))
        exact BK.out) Tryd.underlying24 rfl (by kernel_rfl)) rfl ?_
      exact ⟨rfl, by repeat (with_reducible first | exact HB.out | apply pw_below_drewN | apply below_drew1 | refine below_set ?_ GE.out)⟩
    · rw [if_neg c6] at h
      injection h with e1 h; injection h with e2 h; injection h with e3 e4
      have d6 : decide (6 ≤ a0) = false := decide_eq_false (by omega)
      have t0 : w.cell? ⟨0, a0.toNat * 3, none⟩ = some (.int .i64 (waterfall_Order.kind a0 0)) := waterfall_Order.cells w HL.out a0 (by omega) (by omega) 0 (by omega)
      have t1 : w.cell? ⟨0, a0.toNat * 3 + 1, none⟩ = some (.int .i64 (waterfall_Order.kind a0 1)) := waterfall_Order.cells w HL.out a0 (by omega) (by omega) 1 (by omega)
      have t2 : w.cell? ⟨0, a0.toNat * 3 + 2, none⟩ = some (.int .i64 (waterfall_Order.kind a0 2)) := waterfall_Order.cells w HL.out a0 (by omega) (by omega) 2 (by omega)
      have E := Aside0.mk (And.intro e1 (And.intro e2 e3))
      subst e4
      have p0 := eq_true (show 0 ≤ a0 by omega)
      have p6 := eq_true (show a0 < 6 by omega)
      have p6' := eq_true (show a0.toNat < 6 by omega)
      clear c0 c6 e1 e2 e3
      go_enter Tryd.func7, Tryd.ntmps7
      go_wp2_with (first | ((with_reducible refine gate_dst (N := 2) rfl ?_); refine box_event ?hg (N := 2) ?hd (cs := #[.int .i64 0, .int .i64 0, .int .i64 0]) (t := 24) ?hr ?_; (case hd => rfl); (case hg => rfl); (case hr => first | (go_simp; done) | (go_simp; rfl)); intro gb hg w1 hbox hb; have BK := Aside0.mk hbox; have GE := Aside0.mk (show w.heap.size ≤ gb from by rw [hg]; exact Nat.le_refl _); have HB := Aside0.mk hb; replace t0 := (hb.cell (World.block_lt_of_cell? w _ t0)).trans t0; replace t1 := (hb.cell (World.block_lt_of_cell? w _ t1)).trans t1; replace t2 := (hb.cell (World.block_lt_of_cell? w _ t2)).trans t2; clear hbox hb hg; have hf0 := blk_frozen BK.out 0; have hf1 := blk_frozen BK.out 1; have hf2 := blk_frozen BK.out 2; have hc0 : w1.cell? ⟨gb, 0, none⟩ = some (.int .i64 0) := (blk_cell BK.out 0).trans rfl; have hc1 : w1.cell? ⟨gb, 1, none⟩ = some (.int .i64 0) := (blk_cell BK.out 1).trans rfl; have hc2 : w1.cell? ⟨gb, 2, none⟩ = some (.int .i64 0) := (blk_cell BK.out 2).trans rfl))
      refine bodyPost_ret (results_ct rfl _ _ gb 24 #[.int .i64 (waterfall_Order.kind a0 0), .int .i64 (waterfall_Order.kind a0 1), .int .i64 (waterfall_Order.kind a0 2)] (0, 0) _ rfl (by
        (with_reducible repeat (first | refine blk_drewN ?_ _ | refine blk_drew ?_))
        refine blk_put (cs := #[.int .i64 (waterfall_Order.kind a0 0), .int .i64 (waterfall_Order.kind a0 1), .int .i64 0]) ?_ 2 _ rfl
        (with_reducible repeat (first | refine blk_drewN ?_ _ | refine blk_drew ?_))
        refine blk_put (cs := #[.int .i64 (waterfall_Order.kind a0 0), .int .i64 0, .int .i64 0]) ?_ 1 _ rfl
        (with_reducible repeat (first | refine blk_drewN ?_ _ | refine blk_drew ?_))
        refine blk_put (cs := #[.int .i64 0, .int .i64 0, .int .i64 0]) ?_ 0 _ rfl
        (with_reducible repeat (first | refine blk_drewN ?_ _ | refine blk_drew ?_))
        exact BK.out) Tryd.underlying24 rfl (by kernel_rfl)) rfl ?_
      exact ⟨by rw [← E.out.1, ← E.out.2.1, ← E.out.2.2]; rfl, by repeat (with_reducible first | exact HB.out | apply pw_below_drewN | apply below_drew1 | refine below_set ?_ GE.out)⟩

/-! ### waterfall_Allocate: function 9 (by hand) -/
/-- What one kind takes: so far fees, interest, principal, and what is left. -/
def waterfall_Allocate.step (kind f i p : Int) (s : Int × Int × Int × Int) : Int × Int × Int × Int :=
  if kind = 3 then (mn f s.2.2.2, s.2.1, s.2.2.1, wrap64 (s.2.2.2 - mn f s.2.2.2)) else if kind = 2 then (s.1, mn i s.2.2.2, s.2.2.1, wrap64 (s.2.2.2 - mn i s.2.2.2)) else (s.1, s.2.1, mn p s.2.2.2, wrap64 (s.2.2.2 - mn p s.2.2.2))
def waterfall_Allocate.st (k0 k1 k2 f i p a : Int) : Nat → Int × Int × Int × Int
  | 0 => (0, 0, 0, a)
  | n + 1 => waterfall_Allocate.step (if n = 0 then k0 else if n = 1 then k1 else k2) f i p (waterfall_Allocate.st k0 k1 k2 f i p a n)
def waterfall_Allocate.f (a0 a1_0 a1_1 a1_2 a2 : Int) : Option (Int × Int × Int × Int × Int × Int) := (waterfall_Order.f a0).bind fun q =>
  some (if q.2.2.2 = false ∨ a1_0 < 0 ∨ a1_1 < 0 ∨ a1_2 < 0 then (0, 0, 0, 0, 0, 2) else if a2 < 1 then (0, 0, 0, 0, 0, 4) else
    let s := waterfall_Allocate.st q.1 q.2.1 q.2.2.1 a1_0 a1_1 a1_2 a2 3
    (s.1, s.2.1, s.2.2.1, s.2.2.2, 0, 0))
def waterfall_Allocate.row (s : Int × Int × Int × Int) : Array Value := #[.int .i64 s.1, .int .i64 s.2.1, .int .i64 s.2.2.1, .int .i64 0, .int .i64 0]
theorem waterfall_Allocate.idx3 (x y z : Int) (j : Nat) (hj : j < 3) : ∀ W : World, (Instr.index 24 (.agg #[.int .i64 x, .int .i64 y, .int .i64 z]) (.int .i64 (j : Int))).run Tryd.prog W = .ok (.int .i64 (if j = 0 then x else if j = 1 then y else z)) W := by
  intro W
  have : j = 0 ∨ j = 1 ∨ j = 2 := by omega
  rcases this with rfl | rfl | rfl
  · exact (by kernel_rfl : (Instr.index 24 (.agg #[.int .i64 x, .int .i64 y, .int .i64 z]) (.int .i64 0)).run Tryd.prog W = .ok (.int .i64 x) W)
  · exact (by kernel_rfl : (Instr.index 24 (.agg #[.int .i64 x, .int .i64 y, .int .i64 z]) (.int .i64 1)).run Tryd.prog W = .ok (.int .i64 y) W)
  · exact (by kernel_rfl : (Instr.index 24 (.agg #[.int .i64 x, .int .i64 y, .int .i64 z]) (.int .i64 2)).run Tryd.prog W = .ok (.int .i64 z) W)
set_option maxRecDepth 100000 in
set_option maxHeartbeats 8000000 in
theorem waterfall_Allocate.calls (a0 a1_0 a1_1 a1_2 a2 : Int) (r1 r2 r3 r4 r5 r6 : Int) (w : World) (hL : Laid w) (h : waterfall_Allocate.f a0 a1_0 a1_1 a1_2 a2 = some (r1, r2, r3, r4, r5, r6)) :
    Calls Tryd.prog 9 #[.int .i64 a0, .agg #[.int .i64 a1_0, .int .i64 a1_1, .int .i64 a1_2], .int .i64 a2] w fun e w' => e = .returned (.tuple #[.agg #[.int .i64 r1, .int .i64 r2, .int .i64 r3, .int .i64 r4, .int .i64 r5], .int .i64 r6]) ∧ Below w.heap.size w w' := by
  have HL := Aside0.mk hL
  have hu1 := Tryd.underlying24
  have hu2 := Tryd.underlying23
  have hu3 := Tryd.underlying28
  have HB := Aside0.mk (Below.refl w.heap.size w)
  unfold waterfall_Allocate.f at h
  obtain ⟨⟨k0, k1, k2, kok⟩, oe, h⟩ := Option.bind_eq_some_iff.mp h
  have OE := Aside0.mk oe
  clear oe hL
  have h := Option.some.inj h
  dsimp only at h
  have H0 := Aside0.mk h
  clear h
  go_enter Tryd.func9, Tryd.ntmps9
  go_upto_region 2 with (first | ((with_reducible refine gate_dst (N := 4) rfl ?_); refine box_event ?hg (N := 4) ?hd (cs := #[.int .i64 a1_0, .int .i64 a1_1, .int .i64 a1_2]) (t := 23) ?hr ?_; (case hd => rfl); (case hg => rfl); (case hr => first | (go_simp; done) | (go_simp; rfl)); intro gO hg w1 hbox hb; have n0_ := Aside0.mk (below_step (HB.out) hb); have GO := Aside0.mk (show w.heap.size ≤ gO from by rw [hg]; exact below_size (HB.out)); clear HB; have HB := n0_; clear n0_; have BO := Aside0.mk hbox; clear hbox hb hg) | ((with_reducible refine gate_dst (N := 6) rfl ?_); refine box_event ?hg (N := 6) ?hd (cs := #[.int .i64 0, .int .i64 0, .int .i64 0, .int .i64 0, .int .i64 0]) (t := 28) ?hr ?_; (case hd => rfl); (case hg => rfl); (case hr => first | (go_simp; done) | (go_simp; rfl)); intro gR hg w2 hbox hb; have n0_ := Aside0.mk (below_step (HB.out) hb); have GR := Aside0.mk (show w.heap.size ≤ gR from by rw [hg]; exact below_size (HB.out)); have e_ := BO.out; have NOR : gO ≠ gR := (by rw [hg]; exact Nat.ne_of_lt (blk_lt e_)); have NRO := NOR.symm; have n_ := Aside0.mk (blk_below e_ hb); clear BO e_; have BO := n_; clear n_; clear HB; have HB := n0_; clear n0_; have BR := Aside0.mk hbox; clear hbox hb hg) | (go_at_call 7; refine (waterfall_Order.calls a0 k0 k1 k2 _ _ ?cl OE.out).mono ?_; (case cl => exact laid_at HL.out (HB.out)); rintro e w3 ⟨rfl, hb⟩; have n0_ := Aside0.mk (below_step HB.out hb); have n1_ := Aside0.mk (blk_below BO.out hb); have n2_ := Aside0.mk (blk_below BR.out hb); clear HB BO BR hb; have HB := n0_; have BO := n1_; have BR := n2_; clear n0_ n1_ n2_) | ((with_reducible refine gate_dst (N := 8) rfl ?_); refine box_event ?hg (N := 8) ?hd (cs := #[.int .i64 0, .int .i64 0, .int .i64 0]) (t := 24) ?hr ?_; (case hd => rfl); (case hg => rfl); (case hr => first | (go_simp; done) | (go_simp; rfl)); intro gK hg w4 hbox hb; have n0_ := Aside0.mk (below_step (HB.out) hb); have GK := Aside0.mk (show w.heap.size ≤ gK from by rw [hg]; exact below_size (HB.out)); have e_ := BO.out; have NOK : gO ≠ gK := (by rw [hg]; exact Nat.ne_of_lt (blk_lt e_)); have NKO := NOK.symm; have n_ := Aside0.mk (blk_below e_ hb); clear BO e_; have BO := n_; clear n_; have e_ := BR.out; have NRK : gR ≠ gK := (by rw [hg]; exact Nat.ne_of_lt (blk_lt e_)); have NKR := NRK.symm; have n_ := Aside0.mk (blk_below e_ hb); clear BR e_; have BR := n_; clear n_; clear HB; have HB := n0_; clear n0_; have BK := Aside0.mk hbox; clear hbox hb hg; have kc0 : w4.cell? ⟨gK, 0, none⟩ = some (.int .i64 0) := (blk_cell BK.out 0).trans rfl; have kf0 := blk_frozen BK.out 0; have kc1 : w4.cell? ⟨gK, 1, none⟩ = some (.int .i64 0) := (blk_cell BK.out 1).trans rfl; have kf1 := blk_frozen BK.out 1; have kc2 : w4.cell? ⟨gK, 2, none⟩ = some (.int .i64 0) := (blk_cell BK.out 2).trans rfl; have kf2 := blk_frozen BK.out 2; have oc0 : w4.cell? ⟨gO, 0, none⟩ = some (.int .i64 a1_0) := (blk_cell BO.out 0).trans rfl; have of0 := blk_frozen BO.out 0; have oc1 : w4.cell? ⟨gO, 1, none⟩ = some (.int .i64 a1_1) := (blk_cell BO.out 1).trans rfl; have of1 := blk_frozen BO.out 1; have oc2 : w4.cell? ⟨gO, 2, none⟩ = some (.int .i64 a1_2) := (blk_cell BO.out 2).trans rfl; have of2 := blk_frozen BO.out 2; have rc0 : w4.cell? ⟨gR, 0, none⟩ = some (.int .i64 0) := (blk_cell BR.out 0).trans rfl; have rf0 := blk_frozen BR.out 0; have rc1 : w4.cell? ⟨gR, 1, none⟩ = some (.int .i64 0) := (blk_cell BR.out 1).trans rfl; have rf1 := blk_frozen BR.out 1; have rc2 : w4.cell? ⟨gR, 2, none⟩ = some (.int .i64 0) := (blk_cell BR.out 2).trans rfl; have rf2 := blk_frozen BR.out 2; have rc3 : w4.cell? ⟨gR, 3, none⟩ = some (.int .i64 0) := (blk_cell BR.out 3).trans rfl; have rf3 := blk_frozen BR.out 3; have rc4 : w4.cell? ⟨gR, 4, none⟩ = some (.int .i64 0) := (blk_cell BR.out 4).trans rfl; have rf4 := blk_frozen BR.out 4))
  (try simp only [Act.put, List.setIfInBounds_toArray, List.set_cons_zero, List.set_cons_succ])
  have h := H0.out
  clear H0
  by_cases cb : kok = false
  · rw [if_pos (.inl cb)] at h
    simp only [Prod.mk.injEq] at h
    obtain ⟨rfl, rfl, rfl, rfl, rfl, rfl⟩ := h
    subst cb
    go_wp2_with (first | ((with_reducible refine gate_dst (N := 10) rfl ?_); refine box_event ?hg (N := 10) ?hd (cs := #[.int .i64 0, .int .i64 0, .int .i64 0, .int .i64 0, .int .i64 0]) (t := 28) ?hr ?_; (case hd => rfl); (case hg => rfl); (case hr => first | (go_simp; done) | (go_simp; rfl)); intro gP hg w5 hbox hb; have n0_ := Aside0.mk (below_step (by refine below_set ?_ GK.out; refine below_set ?_ GK.out; refine below_set ?_ GK.out; exact HB.out) hb); have GP := Aside0.mk (show w.heap.size ≤ gP from by rw [hg]; exact below_size (by refine below_set ?_ GK.out; refine below_set ?_ GK.out; refine below_set ?_ GK.out; exact HB.out)); have eo_ := (show (((w4.setCell ⟨gK, 0, none⟩ (.int .i64 k0)).setCell ⟨gK, 1, none⟩ (.int .i64 k1)).setCell ⟨gK, 2, none⟩ (.int .i64 k2)).heap[gO]? = some (.cells #[.int .i64 a1_0, .int .i64 a1_1, .int .i64 a1_2] 23 (0, 0)) from by refine blk_far ?_ NOK _; refine blk_far ?_ NOK _; refine blk_far ?_ NOK _; exact BO.out); have er_ := (show (((w4.setCell ⟨gK, 0, none⟩ (.int .i64 k0)).setCell ⟨gK, 1, none⟩ (.int .i64 k1)).setCell ⟨gK, 2, none⟩ (.int .i64 k2)).heap[gR]? = some (.cells #[.int .i64 0, .int .i64 0, .int .i64 0, .int .i64 0, .int .i64 0] 28 (0, 0)) from by refine blk_far ?_ NRK _; refine blk_far ?_ NRK _; refine blk_far ?_ NRK _; exact BR.out); have NOP : gO ≠ gP := (by rw [hg]; exact Nat.ne_of_lt (blk_lt eo_)); have NPO := NOP.symm; have NRP : gR ≠ gP := (by rw [hg]; exact Nat.ne_of_lt (blk_lt er_)); have NPR := NRP.symm; have m1_ := Aside0.mk (blk_below eo_ hb); have m2_ := Aside0.mk (blk_below er_ hb); clear BO BR eo_ er_; have BO := m1_; have BR := m2_; clear m1_ m2_; have e_ := (show (((w4.setCell ⟨gK, 0, none⟩ (.int .i64 k0)).setCell ⟨gK, 1, none⟩ (.int .i64 k1)).setCell ⟨gK, 2, none⟩ (.int .i64 k2)).heap[gK]? = some (.cells #[.int .i64 k0, .int .i64 k1, .int .i64 k2] 24 (0, 0)) from by refine blk_put (cs := #[.int .i64 k0, .int .i64 k1, .int .i64 0]) ?_ 2 _ rfl; refine blk_put (cs := #[.int .i64 k0, .int .i64 0, .int .i64 0]) ?_ 1 _ rfl; refine blk_put (cs := #[.int .i64 0, .int .i64 0, .int .i64 0]) ?_ 0 _ rfl; exact BK.out); have NKP : gK ≠ gP := (by rw [hg]; exact Nat.ne_of_lt (blk_lt e_)); have NPK := NKP.symm; have n_ := Aside0.mk (blk_below e_ hb); clear BK e_; have BK := n_; clear n_; clear HB; have HB := n0_; clear n0_; have BP := Aside0.mk hbox; clear hbox hb hg; have Kc0 : w5.cell? ⟨gK, 0, none⟩ = some (.int .i64 k0) := (blk_cell BK.out 0).trans rfl; have Kf0 := blk_frozen BK.out 0; have Kc1 : w5.cell? ⟨gK, 1, none⟩ = some (.int .i64 k1) := (blk_cell BK.out 1).trans rfl; have Kf1 := blk_frozen BK.out 1; have Kc2 : w5.cell? ⟨gK, 2, none⟩ = some (.int .i64 k2) := (blk_cell BK.out 2).trans rfl; have Kf2 := blk_frozen BK.out 2))
    refine bodyPost_ret (results_ct rfl _ _ gR 28 #[.int .i64 0, .int .i64 0, .int .i64 0, .int .i64 0, .int .i64 0] (0, 0) _ rfl ?hz Tryd.underlying28 rfl (by kernel_rfl)) rfl ?_
    case hz =>
      (with_reducible repeat (first | refine blk_drewN ?_ _ | refine blk_drew ?_))
      refine blk_put (cs := #[.int .i64 0, .int .i64 0, .int .i64 0, .int .i64 0, .int .i64 0]) ?_ 4 _ (by rfl)
      (with_reducible repeat (first | refine blk_drewN ?_ _ | refine blk_drew ?_))
      refine blk_put (cs := #[.int .i64 0, .int .i64 0, .int .i64 0, .int .i64 0, .int .i64 0]) ?_ 3 _ (by rfl)
      (with_reducible repeat (first | refine blk_drewN ?_ _ | refine blk_drew ?_))
      refine blk_put (cs := #[.int .i64 0, .int .i64 0, .int .i64 0, .int .i64 0, .int .i64 0]) ?_ 2 _ (by rfl)
      (with_reducible repeat (first | refine blk_drewN ?_ _ | refine blk_drew ?_))
      refine blk_put (cs := #[.int .i64 0, .int .i64 0, .int .i64 0, .int .i64 0, .int .i64 0]) ?_ 1 _ (by rfl)
      (with_reducible repeat (first | refine blk_drewN ?_ _ | refine blk_drew ?_))
      refine blk_put (cs := #[.int .i64 0, .int .i64 0, .int .i64 0, .int .i64 0, .int .i64 0]) ?_ 0 _ (by rfl)
      (with_reducible repeat (first | refine blk_drewN ?_ _ | refine blk_drew ?_))
      refine blk_far ?_ NRK _
      (with_reducible repeat (first | refine blk_drewN ?_ _ | refine blk_drew ?_))
      refine blk_far ?_ NRK _
      (with_reducible repeat (first | refine blk_drewN ?_ _ | refine blk_drew ?_))
      refine blk_far ?_ NRK _
      (with_reducible repeat (first | refine blk_drewN ?_ _ | refine blk_drew ?_))
      exact BR.out
    exact ⟨rfl, by repeat (with_reducible first | exact HB.out | apply pw_below_drewN | apply below_drew1 | refine below_set ?_ GO.out | refine below_set ?_ GR.out | refine below_set ?_ GK.out | refine below_set ?_ GP.out)⟩
  · have ck : kok = true := by cases kok; exact absurd rfl cb; rfl
    subst ck
    by_cases q0 : a1_0 < 0
    · rw [if_pos (.inr (.inl q0))] at h
      simp only [Prod.mk.injEq] at h
      obtain ⟨rfl, rfl, rfl, rfl, rfl, rfl⟩ := h
      have d0 : decide (a1_0 < 0) = true := decide_eq_true q0
      clear cb q0
      go_wp2_with (first | ((with_reducible refine gate_dst (N := 10) rfl ?_); refine box_event ?hg (N := 10) ?hd (cs := #[.int .i64 0, .int .i64 0, .int .i64 0, .int .i64 0, .int .i64 0]) (t := 28) ?hr ?_; (case hd => rfl); (case hg => rfl); (case hr => first | (go_simp; done) | (go_simp; rfl)); intro gP hg w5 hbox hb; have n0_ := Aside0.mk (below_step (by refine below_set ?_ GK.out; refine below_set ?_ GK.out; refine below_set ?_ GK.out; exact HB.out) hb); have GP := Aside0.mk (show w.heap.size ≤ gP from by rw [hg]; exact below_size (by refine below_set ?_ GK.out; refine below_set ?_ GK.out; refine below_set ?_ GK.out; exact HB.out)); have eo_ := (show (((w4.setCell ⟨gK, 0, none⟩ (.int .i64 k0)).setCell ⟨gK, 1, none⟩ (.int .i64 k1)).setCell ⟨gK, 2, none⟩ (.int .i64 k2)).heap[gO]? = some (.cells #[.int .i64 a1_0, .int .i64 a1_1, .int .i64 a1_2] 23 (0, 0)) from by refine blk_far ?_ NOK _; refine blk_far ?_ NOK _; refine blk_far ?_ NOK _; exact BO.out); have er_ := (show (((w4.setCell ⟨gK, 0, none⟩ (.int .i64 k0)).setCell ⟨gK, 1, none⟩ (.int .i64 k1)).setCell ⟨gK, 2, none⟩ (.int .i64 k2)).heap[gR]? = some (.cells #[.int .i64 0, .int .i64 0, .int .i64 0, .int .i64 0, .int .i64 0] 28 (0, 0)) from by refine blk_far ?_ NRK _; refine blk_far ?_ NRK _; refine blk_far ?_ NRK _; exact BR.out); have NOP : gO ≠ gP := (by rw [hg]; exact Nat.ne_of_lt (blk_lt eo_)); have NPO := NOP.symm; have NRP : gR ≠ gP := (by rw [hg]; exact Nat.ne_of_lt (blk_lt er_)); have NPR := NRP.symm; have m1_ := Aside0.mk (blk_below eo_ hb); have m2_ := Aside0.mk (blk_below er_ hb); clear BO BR eo_ er_; have BO := m1_; have BR := m2_; clear m1_ m2_; have e_ := (show (((w4.setCell ⟨gK, 0, none⟩ (.int .i64 k0)).setCell ⟨gK, 1, none⟩ (.int .i64 k1)).setCell ⟨gK, 2, none⟩ (.int .i64 k2)).heap[gK]? = some (.cells #[.int .i64 k0, .int .i64 k1, .int .i64 k2] 24 (0, 0)) from by refine blk_put (cs := #[.int .i64 k0, .int .i64 k1, .int .i64 0]) ?_ 2 _ rfl; refine blk_put (cs := #[.int .i64 k0, .int .i64 0, .int .i64 0]) ?_ 1 _ rfl; refine blk_put (cs := #[.int .i64 0, .int .i64 0, .int .i64 0]) ?_ 0 _ rfl; exact BK.out); have NKP : gK ≠ gP := (by rw [hg]; exact Nat.ne_of_lt (blk_lt e_)); have NPK := NKP.symm; have n_ := Aside0.mk (blk_below e_ hb); clear BK e_; have BK := n_; clear n_; clear HB; have HB := n0_; clear n0_; have BP := Aside0.mk hbox; clear hbox hb hg; have Kc0 : w5.cell? ⟨gK, 0, none⟩ = some (.int .i64 k0) := (blk_cell BK.out 0).trans rfl; have Kf0 := blk_frozen BK.out 0; have Kc1 : w5.cell? ⟨gK, 1, none⟩ = some (.int .i64 k1) := (blk_cell BK.out 1).trans rfl; have Kf1 := blk_frozen BK.out 1; have Kc2 : w5.cell? ⟨gK, 2, none⟩ = some (.int .i64 k2) := (blk_cell BK.out 2).trans rfl; have Kf2 := blk_frozen BK.out 2))
      refine bodyPost_ret (results_ct rfl _ _ gR 28 #[.int .i64 0, .int .i64 0, .int .i64 0, .int .i64 0, .int .i64 0] (0, 0) _ rfl ?hz Tryd.underlying28 rfl (by kernel_rfl)) rfl ?_
      case hz =>
        (with_reducible repeat (first | refine blk_drewN ?_ _ | refine blk_drew ?_))
        refine blk_put (cs := #[.int .i64 0, .int .i64 0, .int .i64 0, .int .i64 0, .int .i64 0]) ?_ 4 _ (by rfl)
        (with_reducible repeat (first | refine blk_drewN ?_ _ | refine blk_drew ?_))
        refine blk_put (cs := #[.int .i64 0, .int .i64 0, .int .i64 0, .int .i64 0, .int .i64 0]) ?_ 3 _ (by rfl)
        (with_reducible repeat (first | refine blk_drewN ?_ _ | refine blk_drew ?_))
        refine blk_put (cs := #[.int .i64 0, .int .i64 0, .int .i64 0, .int .i64 0, .int .i64 0]) ?_ 2 _ (by rfl)
        (with_reducible repeat (first | refine blk_drewN ?_ _ | refine blk_drew ?_))
        refine blk_put (cs := #[.int .i64 0, .int .i64 0, .int .i64 0, .int .i64 0, .int .i64 0]) ?_ 1 _ (by rfl)
        (with_reducible repeat (first | refine blk_drewN ?_ _ | refine blk_drew ?_))
        refine blk_put (cs := #[.int .i64 0, .int .i64 0, .int .i64 0, .int .i64 0, .int .i64 0]) ?_ 0 _ (by rfl)
        (with_reducible repeat (first | refine blk_drewN ?_ _ | refine blk_drew ?_))
        refine blk_far ?_ NRK _
        (with_reducible repeat (first | refine blk_drewN ?_ _ | refine blk_drew ?_))
        refine blk_far ?_ NRK _
        (with_reducible repeat (first | refine blk_drewN ?_ _ | refine blk_drew ?_))
        refine blk_far ?_ NRK _
        (with_reducible repeat (first | refine blk_drewN ?_ _ | refine blk_drew ?_))
        exact BR.out
      exact ⟨rfl, by repeat (with_reducible first | exact HB.out | apply pw_below_drewN | apply below_drew1 | refine below_set ?_ GO.out | refine below_set ?_ GR.out | refine below_set ?_ GK.out | refine below_set ?_ GP.out)⟩
    · have d0 : decide (a1_0 < 0) = false := decide_eq_false q0
      by_cases q1 : a1_1 < 0
      · rw [if_pos (.inr (.inr (.inl q1)))] at h
        simp only [Prod.mk.injEq] at h
        obtain ⟨rfl, rfl, rfl, rfl, rfl, rfl⟩ := h
        have d1 : decide (a1_1 < 0) = true := decide_eq_true q1
        clear cb q0 q1
        go_wp2_with (first | ((with_reducible refine gate_dst (N := 10) rfl ?_); refine box_event ?hg (N := 10) ?hd (cs := #[.int .i64 0, .int .i64 0, .int .i64 0, .int .i64 0, .int .i64 0]) (t := 28) ?hr ?_; (case hd => rfl); (case hg => rfl); (case hr => first | (go_simp; done) | (go_simp; rfl)); intro gP hg w5 hbox hb; have n0_ := Aside0.mk (below_step (by refine below_set ?_ GK.out; refine below_set ?_ GK.out; refine below_set ?_ GK.out; exact HB.out) hb); have GP := Aside0.mk (show w.heap.size ≤ gP from by rw [hg]; exact below_size (by refine below_set ?_ GK.out; refine below_set ?_ GK.out; refine below_set ?_ GK.out; exact HB.out)); have eo_ := (show (((w4.setCell ⟨gK, 0, none⟩ (.int .i64 k0)).setCell ⟨gK, 1, none⟩ (.int .i64 k1)).setCell ⟨gK, 2, none⟩ (.int .i64 k2)).heap[gO]? = some (.cells #[.int .i64 a1_0, .int .i64 a1_1, .int .i64 a1_2] 23 (0, 0)) from by refine blk_far ?_ NOK _; refine blk_far ?_ NOK _; refine blk_far ?_ NOK _; exact BO.out); have er_ := (show (((w4.setCell ⟨gK, 0, none⟩ (.int .i64 k0)).setCell ⟨gK, 1, none⟩ (.int .i64 k1)).setCell ⟨gK, 2, none⟩ (.int .i64 k2)).heap[gR]? = some (.cells #[.int .i64 0, .int .i64 0, .int .i64 0, .int .i64 0, .int .i64 0] 28 (0, 0)) from by refine blk_far ?_ NRK _; refine blk_far ?_ NRK _; refine blk_far ?_ NRK _; exact BR.out); have NOP : gO ≠ gP := (by rw [hg]; exact Nat.ne_of_lt (blk_lt eo_)); have NPO := NOP.symm; have NRP : gR ≠ gP := (by rw [hg]; exact Nat.ne_of_lt (blk_lt er_)); have NPR := NRP.symm; have m1_ := Aside0.mk (blk_below eo_ hb); have m2_ := Aside0.mk (blk_below er_ hb); clear BO BR eo_ er_; have BO := m1_; have BR := m2_; clear m1_ m2_; have e_ := (show (((w4.setCell ⟨gK, 0, none⟩ (.int .i64 k0)).setCell ⟨gK, 1, none⟩ (.int .i64 k1)).setCell ⟨gK, 2, none⟩ (.int .i64 k2)).heap[gK]? = some (.cells #[.int .i64 k0, .int .i64 k1, .int .i64 k2] 24 (0, 0)) from by refine blk_put (cs := #[.int .i64 k0, .int .i64 k1, .int .i64 0]) ?_ 2 _ rfl; refine blk_put (cs := #[.int .i64 k0, .int .i64 0, .int .i64 0]) ?_ 1 _ rfl; refine blk_put (cs := #[.int .i64 0, .int .i64 0, .int .i64 0]) ?_ 0 _ rfl; exact BK.out); have NKP : gK ≠ gP := (by rw [hg]; exact Nat.ne_of_lt (blk_lt e_)); have NPK := NKP.symm; have n_ := Aside0.mk (blk_below e_ hb); clear BK e_; have BK := n_; clear n_; clear HB; have HB := n0_; clear n0_; have BP := Aside0.mk hbox; clear hbox hb hg; have Kc0 : w5.cell? ⟨gK, 0, none⟩ = some (.int .i64 k0) := (blk_cell BK.out 0).trans rfl; have Kf0 := blk_frozen BK.out 0; have Kc1 : w5.cell? ⟨gK, 1, none⟩ = some (.int .i64 k1) := (blk_cell BK.out 1).trans rfl; have Kf1 := blk_frozen BK.out 1; have Kc2 : w5.cell? ⟨gK, 2, none⟩ = some (.int .i64 k2) := (blk_cell BK.out 2).trans rfl; have Kf2 := blk_frozen BK.out 2))
        refine bodyPost_ret (results_ct rfl _ _ gR 28 #[.int .i64 0, .int .i64 0, .int .i64 0, .int .i64 0, .int .i64 0] (0, 0) _ rfl ?hz Tryd.underlying28 rfl (by kernel_rfl)) rfl ?_
        case hz =>
          (with_reducible repeat (first | refine blk_drewN ?_ _ | refine blk_drew ?_))
          refine blk_put (cs := #[.int .i64 0, .int .i64 0, .int .i64 0, .int .i64 0, .int .i64 0]) ?_ 4 _ (by rfl)
          (with_reducible repeat (first | refine blk_drewN ?_ _ | refine blk_drew ?_))
          refine blk_put (cs := #[.int .i64 0, .int .i64 0, .int .i64 0, .int .i64 0, .int .i64 0]) ?_ 3 _ (by rfl)
          (with_reducible repeat (first | refine blk_drewN ?_ _ | refine blk_drew ?_))
          refine blk_put (cs := #[.int .i64 0, .int .i64 0, .int .i64 0, .int .i64 0, .int .i64 0]) ?_ 2 _ (by rfl)
          (with_reducible repeat (first | refine blk_drewN ?_ _ | refine blk_drew ?_))
          refine blk_put (cs := #[.int .i64 0, .int .i64 0, .int .i64 0, .int .i64 0, .int .i64 0]) ?_ 1 _ (by rfl)
          (with_reducible repeat (first | refine blk_drewN ?_ _ | refine blk_drew ?_))
          refine blk_put (cs := #[.int .i64 0, .int .i64 0, .int .i64 0, .int .i64 0, .int .i64 0]) ?_ 0 _ (by rfl)
          (with_reducible repeat (first | refine blk_drewN ?_ _ | refine blk_drew ?_))
          refine blk_far ?_ NRK _
          (with_reducible repeat (first | refine blk_drewN ?_ _ | refine blk_drew ?_))
          refine blk_far ?_ NRK _
          (with_reducible repeat (first | refine blk_drewN ?_ _ | refine blk_drew ?_))
          refine blk_far ?_ NRK _
          (with_reducible repeat (first | refine blk_drewN ?_ _ | refine blk_drew ?_))
          exact BR.out
        exact ⟨rfl, by repeat (with_reducible first | exact HB.out | apply pw_below_drewN | apply below_drew1 | refine below_set ?_ GO.out | refine below_set ?_ GR.out | refine below_set ?_ GK.out | refine below_set ?_ GP.out)⟩
      · have d1 : decide (a1_1 < 0) = false := decide_eq_false q1
        by_cases q2 : a1_2 < 0
        · rw [if_pos (.inr (.inr (.inr q2)))] at h
          simp only [Prod.mk.injEq] at h
          obtain ⟨rfl, rfl, rfl, rfl, rfl, rfl⟩ := h
          have d2 : decide (a1_2 < 0) = true := decide_eq_true q2
          clear cb q0 q1 q2
          go_wp2_with (first | ((with_reducible refine gate_dst (N := 10) rfl ?_); refine box_event ?hg (N := 10) ?hd (cs := #[.int .i64 0, .int .i64 0, .int .i64 0, .int .i64 0, .int .i64 0]) (t := 28) ?hr ?_; (case hd => rfl); (case hg => rfl); (case hr => first | (go_simp; done) | (go_simp; rfl)); intro gP hg w5 hbox hb; have n0_ := Aside0.mk (below_step (by refine below_set ?_ GK.out; refine below_set ?_ GK.out; refine below_set ?_ GK.out; exact HB.out) hb); have GP := Aside0.mk (show w.heap.size ≤ gP from by rw [hg]; exact below_size (by refine below_set ?_ GK.out; refine below_set ?_ GK.out; refine below_set ?_ GK.out; exact HB.out)); have eo_ := (show (((w4.setCell ⟨gK, 0, none⟩ (.int .i64 k0)).setCell ⟨gK, 1, none⟩ (.int .i64 k1)).setCell ⟨gK, 2, none⟩ (.int .i64 k2)).heap[gO]? = some (.cells #[.int .i64 a1_0, .int .i64 a1_1, .int .i64 a1_2] 23 (0, 0)) from by refine blk_far ?_ NOK _; refine blk_far ?_ NOK _; refine blk_far ?_ NOK _; exact BO.out); have er_ := (show (((w4.setCell ⟨gK, 0, none⟩ (.int .i64 k0)).setCell ⟨gK, 1, none⟩ (.int .i64 k1)).setCell ⟨gK, 2, none⟩ (.int .i64 k2)).heap[gR]? = some (.cells #[.int .i64 0, .int .i64 0, .int .i64 0, .int .i64 0, .int .i64 0] 28 (0, 0)) from by refine blk_far ?_ NRK _; refine blk_far ?_ NRK _; refine blk_far ?_ NRK _; exact BR.out); have NOP : gO ≠ gP := (by rw [hg]; exact Nat.ne_of_lt (blk_lt eo_)); have NPO := NOP.symm; have NRP : gR ≠ gP := (by rw [hg]; exact Nat.ne_of_lt (blk_lt er_)); have NPR := NRP.symm; have m1_ := Aside0.mk (blk_below eo_ hb); have m2_ := Aside0.mk (blk_below er_ hb); clear BO BR eo_ er_; have BO := m1_; have BR := m2_; clear m1_ m2_; have e_ := (show (((w4.setCell ⟨gK, 0, none⟩ (.int .i64 k0)).setCell ⟨gK, 1, none⟩ (.int .i64 k1)).setCell ⟨gK, 2, none⟩ (.int .i64 k2)).heap[gK]? = some (.cells #[.int .i64 k0, .int .i64 k1, .int .i64 k2] 24 (0, 0)) from by refine blk_put (cs := #[.int .i64 k0, .int .i64 k1, .int .i64 0]) ?_ 2 _ rfl; refine blk_put (cs := #[.int .i64 k0, .int .i64 0, .int .i64 0]) ?_ 1 _ rfl; refine blk_put (cs := #[.int .i64 0, .int .i64 0, .int .i64 0]) ?_ 0 _ rfl; exact BK.out); have NKP : gK ≠ gP := (by rw [hg]; exact Nat.ne_of_lt (blk_lt e_)); have NPK := NKP.symm; have n_ := Aside0.mk (blk_below e_ hb); clear BK e_; have BK := n_; clear n_; clear HB; have HB := n0_; clear n0_; have BP := Aside0.mk hbox; clear hbox hb hg; have Kc0 : w5.cell? ⟨gK, 0, none⟩ = some (.int .i64 k0) := (blk_cell BK.out 0).trans rfl; have Kf0 := blk_frozen BK.out 0; have Kc1 : w5.cell? ⟨gK, 1, none⟩ = some (.int .i64 k1) := (blk_cell BK.out 1).trans rfl; have Kf1 := blk_frozen BK.out 1; have Kc2 : w5.cell? ⟨gK, 2, none⟩ = some (.int .i64 k2) := (blk_cell BK.out 2).trans rfl; have Kf2 := blk_frozen BK.out 2))
          refine bodyPost_ret (results_ct rfl _ _ gR 28 #[.int .i64 0, .int .i64 0, .int .i64 0, .int .i64 0, .int .i64 0] (0, 0) _ rfl ?hz Tryd.underlying28 rfl (by kernel_rfl)) rfl ?_
          case hz =>
            (with_reducible repeat (first | refine blk_drewN ?_ _ | refine blk_drew ?_))
            refine blk_put (cs := #[.int .i64 0, .int .i64 0, .int .i64 0, .int .i64 0, .int .i64 0]) ?_ 4 _ (by rfl)
            (with_reducible repeat (first | refine blk_drewN ?_ _ | refine blk_drew ?_))
            refine blk_put (cs := #[.int .i64 0, .int .i64 0, .int .i64 0, .int .i64 0, .int .i64 0]) ?_ 3 _ (by rfl)
            (with_reducible repeat (first | refine blk_drewN ?_ _ | refine blk_drew ?_))
            refine blk_put (cs := #[.int .i64 0, .int .i64 0, .int .i64 0, .int .i64 0, .int .i64 0]) ?_ 2 _ (by rfl)
            (with_reducible repeat (first | refine blk_drewN ?_ _ | refine blk_drew ?_))
            refine blk_put (cs := #[.int .i64 0, .int .i64 0, .int .i64 0, .int .i64 0, .int .i64 0]) ?_ 1 _ (by rfl)
            (with_reducible repeat (first | refine blk_drewN ?_ _ | refine blk_drew ?_))
            refine blk_put (cs := #[.int .i64 0, .int .i64 0, .int .i64 0, .int .i64 0, .int .i64 0]) ?_ 0 _ (by rfl)
            (with_reducible repeat (first | refine blk_drewN ?_ _ | refine blk_drew ?_))
            refine blk_far ?_ NRK _
            (with_reducible repeat (first | refine blk_drewN ?_ _ | refine blk_drew ?_))
            refine blk_far ?_ NRK _
            (with_reducible repeat (first | refine blk_drewN ?_ _ | refine blk_drew ?_))
            refine blk_far ?_ NRK _
            (with_reducible repeat (first | refine blk_drewN ?_ _ | refine blk_drew ?_))
            exact BR.out
          exact ⟨rfl, by repeat (with_reducible first | exact HB.out | apply pw_below_drewN | apply below_drew1 | refine below_set ?_ GO.out | refine below_set ?_ GR.out | refine below_set ?_ GK.out | refine below_set ?_ GP.out)⟩
        · have d2 : decide (a1_2 < 0) = false := decide_eq_false q2
          rw [if_neg (by rintro (h | h | h | h); exact absurd h cb; exact q0 h; exact q1 h; exact q2 h)] at h
          by_cases q3 : a2 < 1
          · rw [if_pos q3] at h
            simp only [Prod.mk.injEq] at h
            obtain ⟨rfl, rfl, rfl, rfl, rfl, rfl⟩ := h
            have d3 : decide (a2 < 1) = true := decide_eq_true q3
            clear cb q0 q1 q2 q3
            go_wp2_with (first | ((with_reducible refine gate_dst (N := 10) rfl ?_); refine box_event ?hg (N := 10) ?hd (cs := #[.int .i64 0, .int .i64 0, .int .i64 0, .int .i64 0, .int .i64 0]) (t := 28) ?hr ?_; (case hd => rfl); (case hg => rfl); (case hr => first | (go_simp; done) | (go_simp; rfl)); intro gP hg w5 hbox hb; have n0_ := Aside0.mk (below_step (by refine below_set ?_ GK.out; refine below_set ?_ GK.out; refine below_set ?_ GK.out; exact HB.out) hb); have GP := Aside0.mk (show w.heap.size ≤ gP from by rw [hg]; exact below_size (by refine below_set ?_ GK.out; refine below_set ?_ GK.out; refine below_set ?_ GK.out; exact HB.out)); have eo_ := (show (((w4.setCell ⟨gK, 0, none⟩ (.int .i64 k0)).setCell ⟨gK, 1, none⟩ (.int .i64 k1)).setCell ⟨gK, 2, none⟩ (.int .i64 k2)).heap[gO]? = some (.cells #[.int .i64 a1_0, .int .i64 a1_1, .int .i64 a1_2] 23 (0, 0)) from by refine blk_far ?_ NOK _; refine blk_far ?_ NOK _; refine blk_far ?_ NOK _; exact BO.out); have er_ := (show (((w4.setCell ⟨gK, 0, none⟩ (.int .i64 k0)).setCell ⟨gK, 1, none⟩ (.int .i64 k1)).setCell ⟨gK, 2, none⟩ (.int .i64 k2)).heap[gR]? = some (.cells #[.int .i64 0, .int .i64 0, .int .i64 0, .int .i64 0, .int .i64 0] 28 (0, 0)) from by refine blk_far ?_ NRK _; refine blk_far ?_ NRK _; refine blk_far ?_ NRK _; exact BR.out); have NOP : gO ≠ gP := (by rw [hg]; exact Nat.ne_of_lt (blk_lt eo_)); have NPO := NOP.symm; have NRP : gR ≠ gP := (by rw [hg]; exact Nat.ne_of_lt (blk_lt er_)); have NPR := NRP.symm; have m1_ := Aside0.mk (blk_below eo_ hb); have m2_ := Aside0.mk (blk_below er_ hb); clear BO BR eo_ er_; have BO := m1_; have BR := m2_; clear m1_ m2_; have e_ := (show (((w4.setCell ⟨gK, 0, none⟩ (.int .i64 k0)).setCell ⟨gK, 1, none⟩ (.int .i64 k1)).setCell ⟨gK, 2, none⟩ (.int .i64 k2)).heap[gK]? = some (.cells #[.int .i64 k0, .int .i64 k1, .int .i64 k2] 24 (0, 0)) from by refine blk_put (cs := #[.int .i64 k0, .int .i64 k1, .int .i64 0]) ?_ 2 _ rfl; refine blk_put (cs := #[.int .i64 k0, .int .i64 0, .int .i64 0]) ?_ 1 _ rfl; refine blk_put (cs := #[.int .i64 0, .int .i64 0, .int .i64 0]) ?_ 0 _ rfl; exact BK.out); have NKP : gK ≠ gP := (by rw [hg]; exact Nat.ne_of_lt (blk_lt e_)); have NPK := NKP.symm; have n_ := Aside0.mk (blk_below e_ hb); clear BK e_; have BK := n_; clear n_; clear HB; have HB := n0_; clear n0_; have BP := Aside0.mk hbox; clear hbox hb hg; have Kc0 : w5.cell? ⟨gK, 0, none⟩ = some (.int .i64 k0) := (blk_cell BK.out 0).trans rfl; have Kf0 := blk_frozen BK.out 0; have Kc1 : w5.cell? ⟨gK, 1, none⟩ = some (.int .i64 k1) := (blk_cell BK.out 1).trans rfl; have Kf1 := blk_frozen BK.out 1; have Kc2 : w5.cell? ⟨gK, 2, none⟩ = some (.int .i64 k2) := (blk_cell BK.out 2).trans rfl; have Kf2 := blk_frozen BK.out 2))
            refine bodyPost_ret (results_ct rfl _ _ gR 28 #[.int .i64 0, .int .i64 0, .int .i64 0, .int .i64 0, .int .i64 0] (0, 0) _ rfl ?hz Tryd.underlying28 rfl (by kernel_rfl)) rfl ?_
            case hz =>
              (with_reducible repeat (first | refine blk_drewN ?_ _ | refine blk_drew ?_))
              refine blk_put (cs := #[.int .i64 0, .int .i64 0, .int .i64 0, .int .i64 0, .int .i64 0]) ?_ 4 _ (by rfl)
              (with_reducible repeat (first | refine blk_drewN ?_ _ | refine blk_drew ?_))
              refine blk_put (cs := #[.int .i64 0, .int .i64 0, .int .i64 0, .int .i64 0, .int .i64 0]) ?_ 3 _ (by rfl)
              (with_reducible repeat (first | refine blk_drewN ?_ _ | refine blk_drew ?_))
              refine blk_put (cs := #[.int .i64 0, .int .i64 0, .int .i64 0, .int .i64 0, .int .i64 0]) ?_ 2 _ (by rfl)
              (with_reducible repeat (first | refine blk_drewN ?_ _ | refine blk_drew ?_))
              refine blk_put (cs := #[.int .i64 0, .int .i64 0, .int .i64 0, .int .i64 0, .int .i64 0]) ?_ 1 _ (by rfl)
              (with_reducible repeat (first | refine blk_drewN ?_ _ | refine blk_drew ?_))
              refine blk_put (cs := #[.int .i64 0, .int .i64 0, .int .i64 0, .int .i64 0, .int .i64 0]) ?_ 0 _ (by rfl)
              (with_reducible repeat (first | refine blk_drewN ?_ _ | refine blk_drew ?_))
              refine blk_far ?_ NRK _
              (with_reducible repeat (first | refine blk_drewN ?_ _ | refine blk_drew ?_))
              refine blk_far ?_ NRK _
              (with_reducible repeat (first | refine blk_drewN ?_ _ | refine blk_drew ?_))
              refine blk_far ?_ NRK _
              (with_reducible repeat (first | refine blk_drewN ?_ _ | refine blk_drew ?_))
              exact BR.out
            exact ⟨rfl, by repeat (with_reducible first | exact HB.out | apply pw_below_drewN | apply below_drew1 | refine below_set ?_ GO.out | refine below_set ?_ GR.out | refine below_set ?_ GK.out | refine below_set ?_ GP.out)⟩
          · have d3 : decide (a2 < 1) = false := decide_eq_false q3
            rw [if_neg q3] at h
            have HH := Aside0.mk h
            clear h cb q0 q1 q2 q3
            go_wp2_with (first | ((with_reducible refine gate_dst (N := 10) rfl ?_); refine box_event ?hg (N := 10) ?hd (cs := #[.int .i64 0, .int .i64 0, .int .i64 0, .int .i64 0, .int .i64 0]) (t := 28) ?hr ?_; (case hd => rfl); (case hg => rfl); (case hr => first | (go_simp; done) | (go_simp; rfl)); intro gP hg w5 hbox hb; have n0_ := Aside0.mk (below_step (by refine below_set ?_ GK.out; refine below_set ?_ GK.out; refine below_set ?_ GK.out; exact HB.out) hb); have GP := Aside0.mk (show w.heap.size ≤ gP from by rw [hg]; exact below_size (by refine below_set ?_ GK.out; refine below_set ?_ GK.out; refine below_set ?_ GK.out; exact HB.out)); have eo_ := (show (((w4.setCell ⟨gK, 0, none⟩ (.int .i64 k0)).setCell ⟨gK, 1, none⟩ (.int .i64 k1)).setCell ⟨gK, 2, none⟩ (.int .i64 k2)).heap[gO]? = some (.cells #[.int .i64 a1_0, .int .i64 a1_1, .int .i64 a1_2] 23 (0, 0)) from by refine blk_far ?_ NOK _; refine blk_far ?_ NOK _; refine blk_far ?_ NOK _; exact BO.out); have er_ := (show (((w4.setCell ⟨gK, 0, none⟩ (.int .i64 k0)).setCell ⟨gK, 1, none⟩ (.int .i64 k1)).setCell ⟨gK, 2, none⟩ (.int .i64 k2)).heap[gR]? = some (.cells #[.int .i64 0, .int .i64 0, .int .i64 0, .int .i64 0, .int .i64 0] 28 (0, 0)) from by refine blk_far ?_ NRK _; refine blk_far ?_ NRK _; refine blk_far ?_ NRK _; exact BR.out); have NOP : gO ≠ gP := (by rw [hg]; exact Nat.ne_of_lt (blk_lt eo_)); have NPO := NOP.symm; have NRP : gR ≠ gP := (by rw [hg]; exact Nat.ne_of_lt (blk_lt er_)); have NPR := NRP.symm; have m1_ := Aside0.mk (blk_below eo_ hb); have m2_ := Aside0.mk (blk_below er_ hb); clear BO BR eo_ er_; have BO := m1_; have BR := m2_; clear m1_ m2_; have e_ := (show (((w4.setCell ⟨gK, 0, none⟩ (.int .i64 k0)).setCell ⟨gK, 1, none⟩ (.int .i64 k1)).setCell ⟨gK, 2, none⟩ (.int .i64 k2)).heap[gK]? = some (.cells #[.int .i64 k0, .int .i64 k1, .int .i64 k2] 24 (0, 0)) from by refine blk_put (cs := #[.int .i64 k0, .int .i64 k1, .int .i64 0]) ?_ 2 _ rfl; refine blk_put (cs := #[.int .i64 k0, .int .i64 0, .int .i64 0]) ?_ 1 _ rfl; refine blk_put (cs := #[.int .i64 0, .int .i64 0, .int .i64 0]) ?_ 0 _ rfl; exact BK.out); have NKP : gK ≠ gP := (by rw [hg]; exact Nat.ne_of_lt (blk_lt e_)); have NPK := NKP.symm; have n_ := Aside0.mk (blk_below e_ hb); clear BK e_; have BK := n_; clear n_; clear HB; have HB := n0_; clear n0_; have BP := Aside0.mk hbox; clear hbox hb hg; have Kc0 : w5.cell? ⟨gK, 0, none⟩ = some (.int .i64 k0) := (blk_cell BK.out 0).trans rfl; have Kf0 := blk_frozen BK.out 0; have Kc1 : w5.cell? ⟨gK, 1, none⟩ = some (.int .i64 k1) := (blk_cell BK.out 1).trans rfl; have Kf1 := blk_frozen BK.out 1; have Kc2 : w5.cell? ⟨gK, 2, none⟩ = some (.int .i64 k2) := (blk_cell BK.out 2).trans rfl; have Kf2 := blk_frozen BK.out 2))
            go_loopw [11, 44] (fun la i wr => ∃ n : Nat, n ≤ 3 ∧ i = .int .i64 n ∧ la = .int .i64 (waterfall_Allocate.st k0 k1 k2 a1_0 a1_1 a1_2 a2 n).2.2.2 ∧ Aside0 (wr.heap[gP]? = some (.cells (waterfall_Allocate.row (waterfall_Allocate.st k0 k1 k2 a1_0 a1_1 a1_2 a2 n)) 28 (0, 0))) ∧ Aside0 (wr.heap[gR]? = some (.cells #[.int .i64 0, .int .i64 0, .int .i64 0, .int .i64 0, .int .i64 0] 28 (0, 0))) ∧ Aside0 (wr.heap[gO]? = some (.cells #[.int .i64 a1_0, .int .i64 a1_1, .int .i64 a1_2] 23 (0, 0))) ∧ Aside0 (Below w.heap.size w wr)) (fun _ i _ => 3 - (intOf i).toNat)
            case atStart => exact ⟨0, by omega, rfl, rfl, BP, BR, BO, HB⟩
            case round =>
              clear BP BR BO BK HB Kc0 Kc1 Kc2 Kf0 Kf1 Kf2
              obtain ⟨n, hn, rfl, rfl, BP, BR, BO, HB⟩ := hrel
              by_cases hlt : n < 3
              · obtain ⟨⟨s1, s2, s3, s4⟩, hs⟩ : ∃ s, s = waterfall_Allocate.st k0 k1 k2 a1_0 a1_1 a1_2 a2 n := ⟨_, rfl⟩
                have hix := waterfall_Allocate.idx3 k0 k1 k2 n hlt
                obtain ⟨kn, hkn⟩ : ∃ z, z = (if n = 0 then k0 else if n = 1 then k1 else k2) := ⟨_, rfl⟩
                rw [← hkn] at hix
                have KN := Aside0.mk hkn
                clear hkn
                rw [← hs] at BP ⊢
                have HS := Aside0.mk hs
                clear hs
                have pc0 : wr.cell? ⟨gP, 0, none⟩ = some (.int .i64 s1) := (blk_cell BP.out 0).trans rfl
                have pc1 : wr.cell? ⟨gP, 1, none⟩ = some (.int .i64 s2) := (blk_cell BP.out 1).trans rfl
                have pc2 : wr.cell? ⟨gP, 2, none⟩ = some (.int .i64 s3) := (blk_cell BP.out 2).trans rfl
                have pf0 := blk_frozen BP.out 0
                have pf1 := blk_frozen BP.out 1
                have pf2 := blk_frozen BP.out 2
                have oc0 : wr.cell? ⟨gO, 0, none⟩ = some (.int .i64 a1_0) := (blk_cell BO.out 0).trans rfl
                have oc1 : wr.cell? ⟨gO, 1, none⟩ = some (.int .i64 a1_1) := (blk_cell BO.out 1).trans rfl
                have oc2 : wr.cell? ⟨gO, 2, none⟩ = some (.int .i64 a1_2) := (blk_cell BO.out 2).trans rfl
                by_cases v0 : kn = 3
                · have u0_ : (kn == 3) = true := beq_iff_eq.mpr v0
                  have hst : waterfall_Allocate.st k0 k1 k2 a1_0 a1_1 a1_2 a2 (n + 1) = (mn a1_0 s4, s2, s3, wrap64 (s4 - mn a1_0 s4)) := by
                    have h := HS.out
                    have hk := KN.out
                    rw [waterfall_Allocate.st, ← hk, ← h]; unfold waterfall_Allocate.step; rw [if_pos v0]
                  have HST := Aside0.mk hst
                  have HLT := Aside0.mk hlt
                  clear hst v0
                  go_wp2
                  go_roundw
                  case rel => exact ⟨n + 1, HLT.out, by go_num, by rw [HST.out]; rfl, ⟨by rw [HST.out]; refine blk_put (cs := waterfall_Allocate.row (s1, s2, s3, s4)) ?_ 0 _ (by rfl); (with_reducible repeat (first | refine blk_drewN ?_ _ | refine blk_drew ?_)); exact BP.out⟩, ⟨by refine blk_far ?_ NRP _; (with_reducible repeat (first | refine blk_drewN ?_ _ | refine blk_drew ?_)); exact BR.out⟩, ⟨by refine blk_far ?_ NOP _; (with_reducible repeat (first | refine blk_drewN ?_ _ | refine blk_drew ?_)); exact BO.out⟩, ⟨by repeat (with_reducible first | exact HB.out | apply pw_below_drewN | apply below_drew1 | refine below_set ?_ GO.out | refine below_set ?_ GR.out | refine below_set ?_ GK.out | refine below_set ?_ GP.out)⟩⟩
                  case measure => first | (simp [intOf]; done) | (simp [intOf]; omega)
                · have u0_ : (kn == 3) = false := beq_eq_false_iff_ne.mpr v0
                  by_cases v1 : kn = 2
                  · have u1_ : (kn == 2) = true := beq_iff_eq.mpr v1
                    have hst : waterfall_Allocate.st k0 k1 k2 a1_0 a1_1 a1_2 a2 (n + 1) = (s1, mn a1_1 s4, s3, wrap64 (s4 - mn a1_1 s4)) := by
                      have h := HS.out
                      have hk := KN.out
                      rw [waterfall_Allocate.st, ← hk, ← h]; unfold waterfall_Allocate.step; rw [if_neg v0, if_pos v1]
                    have HST := Aside0.mk hst
                    have HLT := Aside0.mk hlt
                    clear hst v0 v1
                    go_wp2
                    go_roundw
                    case rel => exact ⟨n + 1, HLT.out, by go_num, by rw [HST.out]; rfl, ⟨by rw [HST.out]; refine blk_put (cs := waterfall_Allocate.row (s1, s2, s3, s4)) ?_ 1 _ (by rfl); (with_reducible repeat (first | refine blk_drewN ?_ _ | refine blk_drew ?_)); exact BP.out⟩, ⟨by refine blk_far ?_ NRP _; (with_reducible repeat (first | refine blk_drewN ?_ _ | refine blk_drew ?_)); exact BR.out⟩, ⟨by refine blk_far ?_ NOP _; (with_reducible repeat (first | refine blk_drewN ?_ _ | refine blk_drew ?_)); exact BO.out⟩, ⟨by repeat (with_reducible first | exact HB.out | apply pw_below_drewN | apply below_drew1 | refine below_set ?_ GO.out | refine below_set ?_ GR.out | refine below_set ?_ GK.out | refine below_set ?_ GP.out)⟩⟩
                    case measure => first | (simp [intOf]; done) | (simp [intOf]; omega)
                  · have u1_ : (kn == 2) = false := beq_eq_false_iff_ne.mpr v1
                    have hst : waterfall_Allocate.st k0 k1 k2 a1_0 a1_1 a1_2 a2 (n + 1) = (s1, s2, mn a1_2 s4, wrap64 (s4 - mn a1_2 s4)) := by
                      have h := HS.out
                      have hk := KN.out
                      rw [waterfall_Allocate.st, ← hk, ← h]; unfold waterfall_Allocate.step; rw [if_neg v0, if_neg v1]
                    have HST := Aside0.mk hst
                    have HLT := Aside0.mk hlt
                    clear hst v0 v1
                    go_wp2
                    go_roundw
                    case rel => exact ⟨n + 1, HLT.out, by go_num, by rw [HST.out]; rfl, ⟨by rw [HST.out]; refine blk_put (cs := waterfall_Allocate.row (s1, s2, s3, s4)) ?_ 2 _ (by rfl); (with_reducible repeat (first | refine blk_drewN ?_ _ | refine blk_drew ?_)); exact BP.out⟩, ⟨by refine blk_far ?_ NRP _; (with_reducible repeat (first | refine blk_drewN ?_ _ | refine blk_drew ?_)); exact BR.out⟩, ⟨by refine blk_far ?_ NOP _; (with_reducible repeat (first | refine blk_drewN ?_ _ | refine blk_drew ?_)); exact BO.out⟩, ⟨by repeat (with_reducible first | exact HB.out | apply pw_below_drewN | apply below_drew1 | refine below_set ?_ GO.out | refine below_set ?_ GR.out | refine below_set ?_ GK.out | refine below_set ?_ GP.out)⟩⟩
                    case measure => first | (simp [intOf]; done) | (simp [intOf]; omega)
              have hn3 : n = 3 := by omega
              subst hn3
              clear hlt
              · obtain ⟨⟨s1, s2, s3, s4⟩, hs⟩ : ∃ s, s = waterfall_Allocate.st k0 k1 k2 a1_0 a1_1 a1_2 a2 3 := ⟨_, rfl⟩
                have h := HH.out
                rw [← hs] at BP h ⊢
                dsimp only at h ⊢
                simp only [Prod.mk.injEq] at h
                obtain ⟨rfl, rfl, rfl, rfl, rfl, rfl⟩ := h
                clear HH hs
                have pc0 : wr.cell? ⟨gP, 0, none⟩ = some (.int .i64 s1) := (blk_cell BP.out 0).trans rfl
                have pf0 := blk_frozen BP.out 0
                have pc1 : wr.cell? ⟨gP, 1, none⟩ = some (.int .i64 s2) := (blk_cell BP.out 1).trans rfl
                have pf1 := blk_frozen BP.out 1
                have pc2 : wr.cell? ⟨gP, 2, none⟩ = some (.int .i64 s3) := (blk_cell BP.out 2).trans rfl
                have pf2 := blk_frozen BP.out 2
                have pc3 : wr.cell? ⟨gP, 3, none⟩ = some (.int .i64 0) := (blk_cell BP.out 3).trans rfl
                have pf3 := blk_frozen BP.out 3
                have pc4 : wr.cell? ⟨gP, 4, none⟩ = some (.int .i64 0) := (blk_cell BP.out 4).trans rfl
                have pf4 := blk_frozen BP.out 4
                have rc0 : wr.cell? ⟨gR, 0, none⟩ = some (.int .i64 0) := (blk_cell BR.out 0).trans rfl
                have rf0 := blk_frozen BR.out 0
                have rc1 : wr.cell? ⟨gR, 1, none⟩ = some (.int .i64 0) := (blk_cell BR.out 1).trans rfl
                have rf1 := blk_frozen BR.out 1
                have rc2 : wr.cell? ⟨gR, 2, none⟩ = some (.int .i64 0) := (blk_cell BR.out 2).trans rfl
                have rf2 := blk_frozen BR.out 2
                have rc3 : wr.cell? ⟨gR, 3, none⟩ = some (.int .i64 0) := (blk_cell BR.out 3).trans rfl
                have rf3 := blk_frozen BR.out 3
                have rc4 : wr.cell? ⟨gR, 4, none⟩ = some (.int .i64 0) := (blk_cell BR.out 4).trans rfl
                have rf4 := blk_frozen BR.out 4
                go_wp2
                refine bodyPost_ret (results_ct rfl _ _ gR 28 #[.int .i64 s1, .int .i64 s2, .int .i64 s3, .int .i64 s4, .int .i64 0] (0, 0) _ rfl ?hz Tryd.underlying28 rfl (by kernel_rfl)) rfl ?_
                case hz =>
                  (with_reducible repeat (first | refine blk_drewN ?_ _ | refine blk_drew ?_))
                  refine blk_put (cs := #[.int .i64 s1, .int .i64 s2, .int .i64 s3, .int .i64 s4, .int .i64 0]) ?_ 4 _ (by rfl)
                  (with_reducible repeat (first | refine blk_drewN ?_ _ | refine blk_drew ?_))
                  refine blk_put (cs := #[.int .i64 s1, .int .i64 s2, .int .i64 s3, .int .i64 0, .int .i64 0]) ?_ 3 _ (by rfl)
                  (with_reducible repeat (first | refine blk_drewN ?_ _ | refine blk_drew ?_))
                  refine blk_put (cs := #[.int .i64 s1, .int .i64 s2, .int .i64 0, .int .i64 0, .int .i64 0]) ?_ 2 _ (by rfl)
                  (with_reducible repeat (first | refine blk_drewN ?_ _ | refine blk_drew ?_))
                  refine blk_put (cs := #[.int .i64 s1, .int .i64 0, .int .i64 0, .int .i64 0, .int .i64 0]) ?_ 1 _ (by rfl)
                  (with_reducible repeat (first | refine blk_drewN ?_ _ | refine blk_drew ?_))
                  refine blk_put (cs := #[.int .i64 0, .int .i64 0, .int .i64 0, .int .i64 0, .int .i64 0]) ?_ 0 _ (by rfl)
                  (with_reducible repeat (first | refine blk_drewN ?_ _ | refine blk_drew ?_))
                  refine blk_far ?_ NRP _
                  (with_reducible repeat (first | refine blk_drewN ?_ _ | refine blk_drew ?_))
                  exact BR.out
                exact ⟨rfl, by repeat (with_reducible first | exact HB.out | apply pw_below_drewN | apply below_drew1 | refine below_set ?_ GO.out | refine below_set ?_ GR.out | refine below_set ?_ GK.out | refine below_set ?_ GP.out)⟩

/-! ### arrearslaw9_payable: function 12 -/
def arrearslaw9_payable.f (a0 : Int) (a1_0 : Int) (a1_1 : Int) (a1_2 : Int) (a2 : Int) : Option (Bool) := if a0 ≥ 0 then (if a0 ≤ 5 then (if a1_0 ≥ 0 then (if a1_1 ≥ 0 then (if a1_2 ≥ 0 then (some (decide (a2 ≥ 1))) else (some false)) else (some false)) else (some false)) else (some false)) else (some false)
set_option maxHeartbeats 8000000 in
set_option maxRecDepth 100000 in
theorem arrearslaw9_payable.calls (a0 : Int) (a1_0 : Int) (a1_1 : Int) (a1_2 : Int) (a2 : Int) (r : Bool) (w : World) (h : arrearslaw9_payable.f a0 a1_0 a1_1 a1_2 a2 = some r) :
    Calls Tryd.prog 12 #[.int .i64 a0, .agg #[.int .i64 a1_0, .int .i64 a1_1, .int .i64 a1_2], .int .i64 a2] w fun e w' => e = .returned (.bool r) ∧ Below w.heap.size w w' := by
  have hu23 := Tryd.underlying23
  have HB := Aside0.mk (Below.refl w.heap.size w)
  have H : (if a0 ≥ 0 then (if a0 ≤ 5 then (if a1_0 ≥ 0 then (if a1_1 ≥ 0 then (if a1_2 ≥ 0 then (some (decide (a2 ≥ 1))) else (some false)) else (some false)) else (some false)) else (some false)) else (some false)) = some r := h
  clear h
  by_cases c4 : a0 ≥ 0
  · rw [if_pos c4] at H
    have c4b0 : decide (0 ≤ a0) = true := decide_eq_true c4
    clear c4
    by_cases c5 : a0 ≤ 5
    · rw [if_pos c5] at H
      have c5b0 : decide (a0 ≤ 5) = true := decide_eq_true c5
      clear c5
      by_cases c6 : a1_0 ≥ 0
      · rw [if_pos c6] at H
        have c6b0 : decide (0 ≤ a1_0) = true := decide_eq_true c6
        clear c6
        by_cases c7 : a1_1 ≥ 0
        · rw [if_pos c7] at H
          have c7b0 : decide (0 ≤ a1_1) = true := decide_eq_true c7
          clear c7
          by_cases c8 : a1_2 ≥ 0
          · rw [if_pos c8] at H
            have c8b0 : decide (0 ≤ a1_2) = true := decide_eq_true c8
            clear c8
            obtain rfl := Option.some.inj H
            go_enter Tryd.func12, Tryd.ntmps12
            go_wp2_with (first | ((with_reducible refine gate_dst (N := 4) rfl ?_); refine box_event ?hg (N := 4) ?hd (cs := #[.int .i64 a1_0, .int .i64 a1_1, .int .i64 a1_2]) (t := 23) ?hr ?_; (case hd => rfl); (case hg => rfl); (case hr => first | (go_simp; done) | (go_simp; rfl)); intro gb101 hg w9 hbox hb; have n0_ := Aside0.mk (below_step (by repeat (first | (with_reducible first | exact HB.out | apply below_alloc | apply pw_below_drewN | apply below_drew1) | exact HB.out)) hb); have n1_ := Aside0.mk (hbox); have n2_ := Aside0.mk ((by rw [hg]; exact (below_size (by repeat (first | (with_reducible first | exact HB.out | apply below_alloc | apply pw_below_drewN | apply below_drew1) | exact HB.out))) : w.heap.size ≤ gb101)); have n3_ := Aside0.mk ((by rw [hg]; exact (below_size (by repeat (first | (with_reducible first | exact HB.out | apply below_alloc | apply pw_below_drewN | apply below_drew1) | exact HB.out))) : w.heap.size ≤ gb101)); clear HB; have HB := n0_; have BK101 := n1_; have GW101 := n2_; have GE101 := n3_; clear n0_ n1_ n2_ n3_; clear hb hbox hg; have hcz10_0 : w9.cell? ⟨gb101, 0, none⟩ = some (.int .i64 a1_0) := (blk_cell BK101.out 0).trans rfl; have hcz10_1 : w9.cell? ⟨gb101, 1, none⟩ = some (.int .i64 a1_1) := (blk_cell BK101.out 1).trans rfl; have hcz10_2 : w9.cell? ⟨gb101, 2, none⟩ = some (.int .i64 a1_2) := (blk_cell BK101.out 2).trans rfl; have hfz10_0 := blk_frozen BK101.out 0; have hfz10_1 := blk_frozen BK101.out 1; have hfz10_2 := blk_frozen BK101.out 2))
            go_ret
            exact ⟨by first | rfl | (simp [errW_none, errW_some] <;> rfl) | (simp [*, errW_none, errW_some] <;> rfl), by repeat (first | (with_reducible first | exact HB.out | apply below_alloc | apply pw_below_drewN | apply below_drew1 | refine below_set ?_ GE101.out) | exact HB.out)⟩
          · rw [if_neg c8] at H
            have c8b0 : decide (0 ≤ a1_2) = false := decide_eq_false c8
            clear c8
            obtain rfl := Option.some.inj H
            go_enter Tryd.func12, Tryd.ntmps12
            go_wp2_with (first | ((with_reducible refine gate_dst (N := 4) rfl ?_); refine box_event ?hg (N := 4) ?hd (cs := #[.int .i64 a1_0, .int .i64 a1_1, .int .i64 a1_2]) (t := 23) ?hr ?_; (case hd => rfl); (case hg => rfl); (case hr => first | (go_simp; done) | (go_simp; rfl)); intro gb101 hg w11 hbox hb; have n0_ := Aside0.mk (below_step (by repeat (first | (with_reducible first | exact HB.out | apply below_alloc | apply pw_below_drewN | apply below_drew1) | exact HB.out)) hb); have n1_ := Aside0.mk (hbox); have n2_ := Aside0.mk ((by rw [hg]; exact (below_size (by repeat (first | (with_reducible first | exact HB.out | apply below_alloc | apply pw_below_drewN | apply below_drew1) | exact HB.out))) : w.heap.size ≤ gb101)); have n3_ := Aside0.mk ((by rw [hg]; exact (below_size (by repeat (first | (with_reducible first | exact HB.out | apply below_alloc | apply pw_below_drewN | apply below_drew1) | exact HB.out))) : w.heap.size ≤ gb101)); clear HB; have HB := n0_; have BK101 := n1_; have GW101 := n2_; have GE101 := n3_; clear n0_ n1_ n2_ n3_; clear hb hbox hg; have hcz12_0 : w11.cell? ⟨gb101, 0, none⟩ = some (.int .i64 a1_0) := (blk_cell BK101.out 0).trans rfl; have hcz12_1 : w11.cell? ⟨gb101, 1, none⟩ = some (.int .i64 a1_1) := (blk_cell BK101.out 1).trans rfl; have hcz12_2 : w11.cell? ⟨gb101, 2, none⟩ = some (.int .i64 a1_2) := (blk_cell BK101.out 2).trans rfl; have hfz12_0 := blk_frozen BK101.out 0; have hfz12_1 := blk_frozen BK101.out 1; have hfz12_2 := blk_frozen BK101.out 2))
            go_ret
            exact ⟨by first | rfl | (simp [errW_none, errW_some] <;> rfl) | (simp [*, errW_none, errW_some] <;> rfl), by repeat (first | (with_reducible first | exact HB.out | apply below_alloc | apply pw_below_drewN | apply below_drew1 | refine below_set ?_ GE101.out) | exact HB.out)⟩
        · rw [if_neg c7] at H
          have c7b0 : decide (0 ≤ a1_1) = false := decide_eq_false c7
          clear c7
          obtain rfl := Option.some.inj H
          go_enter Tryd.func12, Tryd.ntmps12
          go_wp2_with (first | ((with_reducible refine gate_dst (N := 4) rfl ?_); refine box_event ?hg (N := 4) ?hd (cs := #[.int .i64 a1_0, .int .i64 a1_1, .int .i64 a1_2]) (t := 23) ?hr ?_; (case hd => rfl); (case hg => rfl); (case hr => first | (go_simp; done) | (go_simp; rfl)); intro gb101 hg w13 hbox hb; have n0_ := Aside0.mk (below_step (by repeat (first | (with_reducible first | exact HB.out | apply below_alloc | apply pw_below_drewN | apply below_drew1) | exact HB.out)) hb); have n1_ := Aside0.mk (hbox); have n2_ := Aside0.mk ((by rw [hg]; exact (below_size (by repeat (first | (with_reducible first | exact HB.out | apply below_alloc | apply pw_below_drewN | apply below_drew1) | exact HB.out))) : w.heap.size ≤ gb101)); have n3_ := Aside0.mk ((by rw [hg]; exact (below_size (by repeat (first | (with_reducible first | exact HB.out | apply below_alloc | apply pw_below_drewN | apply below_drew1) | exact HB.out))) : w.heap.size ≤ gb101)); clear HB; have HB := n0_; have BK101 := n1_; have GW101 := n2_; have GE101 := n3_; clear n0_ n1_ n2_ n3_; clear hb hbox hg; have hcz14_0 : w13.cell? ⟨gb101, 0, none⟩ = some (.int .i64 a1_0) := (blk_cell BK101.out 0).trans rfl; have hcz14_1 : w13.cell? ⟨gb101, 1, none⟩ = some (.int .i64 a1_1) := (blk_cell BK101.out 1).trans rfl; have hcz14_2 : w13.cell? ⟨gb101, 2, none⟩ = some (.int .i64 a1_2) := (blk_cell BK101.out 2).trans rfl; have hfz14_0 := blk_frozen BK101.out 0; have hfz14_1 := blk_frozen BK101.out 1; have hfz14_2 := blk_frozen BK101.out 2))
          go_ret
          exact ⟨by first | rfl | (simp [errW_none, errW_some] <;> rfl) | (simp [*, errW_none, errW_some] <;> rfl), by repeat (first | (with_reducible first | exact HB.out | apply below_alloc | apply pw_below_drewN | apply below_drew1 | refine below_set ?_ GE101.out) | exact HB.out)⟩
      · rw [if_neg c6] at H
        have c6b0 : decide (0 ≤ a1_0) = false := decide_eq_false c6
        clear c6
        obtain rfl := Option.some.inj H
        go_enter Tryd.func12, Tryd.ntmps12
        go_wp2_with (first | ((with_reducible refine gate_dst (N := 4) rfl ?_); refine box_event ?hg (N := 4) ?hd (cs := #[.int .i64 a1_0, .int .i64 a1_1, .int .i64 a1_2]) (t := 23) ?hr ?_; (case hd => rfl); (case hg => rfl); (case hr => first | (go_simp; done) | (go_simp; rfl)); intro gb101 hg w15 hbox hb; have n0_ := Aside0.mk (below_step (by repeat (first | (with_reducible first | exact HB.out | apply below_alloc | apply pw_below_drewN | apply below_drew1) | exact HB.out)) hb); have n1_ := Aside0.mk (hbox); have n2_ := Aside0.mk ((by rw [hg]; exact (below_size (by repeat (first | (with_reducible first | exact HB.out | apply below_alloc | apply pw_below_drewN | apply below_drew1) | exact HB.out))) : w.heap.size ≤ gb101)); have n3_ := Aside0.mk ((by rw [hg]; exact (below_size (by repeat (first | (with_reducible first | exact HB.out | apply below_alloc | apply pw_below_drewN | apply below_drew1) | exact HB.out))) : w.heap.size ≤ gb101)); clear HB; have HB := n0_; have BK101 := n1_; have GW101 := n2_; have GE101 := n3_; clear n0_ n1_ n2_ n3_; clear hb hbox hg; have hcz16_0 : w15.cell? ⟨gb101, 0, none⟩ = some (.int .i64 a1_0) := (blk_cell BK101.out 0).trans rfl; have hcz16_1 : w15.cell? ⟨gb101, 1, none⟩ = some (.int .i64 a1_1) := (blk_cell BK101.out 1).trans rfl; have hcz16_2 : w15.cell? ⟨gb101, 2, none⟩ = some (.int .i64 a1_2) := (blk_cell BK101.out 2).trans rfl; have hfz16_0 := blk_frozen BK101.out 0; have hfz16_1 := blk_frozen BK101.out 1; have hfz16_2 := blk_frozen BK101.out 2))
        go_ret
        exact ⟨by first | rfl | (simp [errW_none, errW_some] <;> rfl) | (simp [*, errW_none, errW_some] <;> rfl), by repeat (first | (with_reducible first | exact HB.out | apply below_alloc | apply pw_below_drewN | apply below_drew1 | refine below_set ?_ GE101.out) | exact HB.out)⟩
    · rw [if_neg c5] at H
      have c5b0 : decide (a0 ≤ 5) = false := decide_eq_false c5
      clear c5
      obtain rfl := Option.some.inj H
      go_enter Tryd.func12, Tryd.ntmps12
      go_wp2_with (first | ((with_reducible refine gate_dst (N := 4) rfl ?_); refine box_event ?hg (N := 4) ?hd (cs := #[.int .i64 a1_0, .int .i64 a1_1, .int .i64 a1_2]) (t := 23) ?hr ?_; (case hd => rfl); (case hg => rfl); (case hr => first | (go_simp; done) | (go_simp; rfl)); intro gb101 hg w17 hbox hb; have n0_ := Aside0.mk (below_step (by repeat (first | (with_reducible first | exact HB.out | apply below_alloc | apply pw_below_drewN | apply below_drew1) | exact HB.out)) hb); have n1_ := Aside0.mk (hbox); have n2_ := Aside0.mk ((by rw [hg]; exact (below_size (by repeat (first | (with_reducible first | exact HB.out | apply below_alloc | apply pw_below_drewN | apply below_drew1) | exact HB.out))) : w.heap.size ≤ gb101)); have n3_ := Aside0.mk ((by rw [hg]; exact (below_size (by repeat (first | (with_reducible first | exact HB.out | apply below_alloc | apply pw_below_drewN | apply below_drew1) | exact HB.out))) : w.heap.size ≤ gb101)); clear HB; have HB := n0_; have BK101 := n1_; have GW101 := n2_; have GE101 := n3_; clear n0_ n1_ n2_ n3_; clear hb hbox hg))
      go_ret
      exact ⟨by first | rfl | (simp [errW_none, errW_some] <;> rfl) | (simp [*, errW_none, errW_some] <;> rfl), by repeat (first | (with_reducible first | exact HB.out | apply below_alloc | apply pw_below_drewN | apply below_drew1 | refine below_set ?_ GE101.out) | exact HB.out)⟩
  · rw [if_neg c4] at H
    have c4b0 : decide (0 ≤ a0) = false := decide_eq_false c4
    clear c4
    obtain rfl := Option.some.inj H
    go_enter Tryd.func12, Tryd.ntmps12
    go_wp2_with (first | ((with_reducible refine gate_dst (N := 4) rfl ?_); refine box_event ?hg (N := 4) ?hd (cs := #[.int .i64 a1_0, .int .i64 a1_1, .int .i64 a1_2]) (t := 23) ?hr ?_; (case hd => rfl); (case hg => rfl); (case hr => first | (go_simp; done) | (go_simp; rfl)); intro gb101 hg w18 hbox hb; have n0_ := Aside0.mk (below_step (by repeat (first | (with_reducible first | exact HB.out | apply below_alloc | apply pw_below_drewN | apply below_drew1) | exact HB.out)) hb); have n1_ := Aside0.mk (hbox); have n2_ := Aside0.mk ((by rw [hg]; exact (below_size (by repeat (first | (with_reducible first | exact HB.out | apply below_alloc | apply pw_below_drewN | apply below_drew1) | exact HB.out))) : w.heap.size ≤ gb101)); have n3_ := Aside0.mk ((by rw [hg]; exact (below_size (by repeat (first | (with_reducible first | exact HB.out | apply below_alloc | apply pw_below_drewN | apply below_drew1) | exact HB.out))) : w.heap.size ≤ gb101)); clear HB; have HB := n0_; have BK101 := n1_; have GW101 := n2_; have GE101 := n3_; clear n0_ n1_ n2_ n3_; clear hb hbox hg))
    go_ret
    exact ⟨by first | rfl | (simp [errW_none, errW_some] <;> rfl) | (simp [*, errW_none, errW_some] <;> rfl), by repeat (first | (with_reducible first | exact HB.out | apply below_alloc | apply pw_below_drewN | apply below_drew1 | refine below_set ?_ GE101.out) | exact HB.out)⟩

/-! ### arrearslaw9_small: function 14 -/
def arrearslaw9_small.f (a0_0 : Int) (a0_1 : Int) (a0_2 : Int) (a1 : Int) (a2 : Int) : Option (Bool) := if a0_0 ≤ 1000000000000000 then (if a0_1 ≤ 1000000000000000 then (if a0_2 ≤ 1000000000000000 then (if a1 ≤ 1000000000000000 then (if a2 ≥ 0 then (some (decide (a2 ≤ 1000000000000000))) else (some false)) else (some false)) else (some false)) else (some false)) else (some false)
set_option maxHeartbeats 8000000 in
set_option maxRecDepth 100000 in
theorem arrearslaw9_small.calls (a0_0 : Int) (a0_1 : Int) (a0_2 : Int) (a1 : Int) (a2 : Int) (r : Bool) (w : World) (h : arrearslaw9_small.f a0_0 a0_1 a0_2 a1 a2 = some r) :
    Calls Tryd.prog 14 #[.agg #[.int .i64 a0_0, .int .i64 a0_1, .int .i64 a0_2], .int .i64 a1, .int .i64 a2] w fun e w' => e = .returned (.bool r) ∧ Below w.heap.size w w' := by
  have hu23 := Tryd.underlying23
  have HB := Aside0.mk (Below.refl w.heap.size w)
  have H : (if a0_0 ≤ 1000000000000000 then (if a0_1 ≤ 1000000000000000 then (if a0_2 ≤ 1000000000000000 then (if a1 ≤ 1000000000000000 then (if a2 ≥ 0 then (some (decide (a2 ≤ 1000000000000000))) else (some false)) else (some false)) else (some false)) else (some false)) else (some false)) = some r := h
  clear h
  by_cases c4 : a0_0 ≤ 1000000000000000
  · rw [if_pos c4] at H
    have c4b0 : decide (a0_0 ≤ 1000000000000000) = true := decide_eq_true c4
    clear c4
    by_cases c5 : a0_1 ≤ 1000000000000000
    · rw [if_pos c5] at H
      have c5b0 : decide (a0_1 ≤ 1000000000000000) = true := decide_eq_true c5
      clear c5
      by_cases c6 : a0_2 ≤ 1000000000000000
      · rw [if_pos c6] at H
        have c6b0 : decide (a0_2 ≤ 1000000000000000) = true := decide_eq_true c6
        clear c6
        by_cases c7 : a1 ≤ 1000000000000000
        · rw [if_pos c7] at H
          have c7b0 : decide (a1 ≤ 1000000000000000) = true := decide_eq_true c7
          clear c7
          by_cases c8 : a2 ≥ 0
          · rw [if_pos c8] at H
            have c8b0 : decide (0 ≤ a2) = true := decide_eq_true c8
            clear c8
            obtain rfl := Option.some.inj H
            go_enter Tryd.func14, Tryd.ntmps14
            go_wp2_with (first | ((with_reducible refine gate_dst (N := 3) rfl ?_); refine box_event ?hg (N := 3) ?hd (cs := #[.int .i64 a0_0, .int .i64 a0_1, .int .i64 a0_2]) (t := 23) ?hr ?_; (case hd => rfl); (case hg => rfl); (case hr => first | (go_simp; done) | (go_simp; rfl)); intro gb102 hg w9 hbox hb; have n0_ := Aside0.mk (below_step (by repeat (first | (with_reducible first | exact HB.out | apply below_alloc | apply pw_below_drewN | apply below_drew1) | exact HB.out)) hb); have n1_ := Aside0.mk (hbox); have n2_ := Aside0.mk ((by rw [hg]; exact (below_size (by repeat (first | (with_reducible first | exact HB.out | apply below_alloc | apply pw_below_drewN | apply below_drew1) | exact HB.out))) : w.heap.size ≤ gb102)); have n3_ := Aside0.mk ((by rw [hg]; exact (below_size (by repeat (first | (with_reducible first | exact HB.out | apply below_alloc | apply pw_below_drewN | apply below_drew1) | exact HB.out))) : w.heap.size ≤ gb102)); clear HB; have HB := n0_; have BK102 := n1_; have GW102 := n2_; have GE102 := n3_; clear n0_ n1_ n2_ n3_; clear hb hbox hg; have hcz10_0 : w9.cell? ⟨gb102, 0, none⟩ = some (.int .i64 a0_0) := (blk_cell BK102.out 0).trans rfl; have hcz10_1 : w9.cell? ⟨gb102, 1, none⟩ = some (.int .i64 a0_1) := (blk_cell BK102.out 1).trans rfl; have hcz10_2 : w9.cell? ⟨gb102, 2, none⟩ = some (.int .i64 a0_2) := (blk_cell BK102.out 2).trans rfl; have hfz10_0 := blk_frozen BK102.out 0; have hfz10_1 := blk_frozen BK102.out 1; have hfz10_2 := blk_frozen BK102.out 2))
            go_ret
            exact ⟨by first | rfl | (simp [errW_none, errW_some] <;> rfl) | (simp [*, errW_none, errW_some] <;> rfl), by repeat (first | (with_reducible first | exact HB.out | apply below_alloc | apply pw_below_drewN | apply below_drew1 | refine below_set ?_ GE102.out) | exact HB.out)⟩
          · rw [if_neg c8] at H
            have c8b0 : decide (0 ≤ a2) = false := decide_eq_false c8
            clear c8
            obtain rfl := Option.some.inj H
            go_enter Tryd.func14, Tryd.ntmps14
            go_wp2_with (first | ((with_reducible refine gate_dst (N := 3) rfl ?_); refine box_event ?hg (N := 3) ?hd (cs := #[.int .i64 a0_0, .int .i64 a0_1, .int .i64 a0_2]) (t := 23) ?hr ?_; (case hd => rfl); (case hg => rfl); (case hr => first | (go_simp; done) | (go_simp; rfl)); intro gb102 hg w11 hbox hb; have n0_ := Aside0.mk (below_step (by repeat (first | (with_reducible first | exact HB.out | apply below_alloc | apply pw_below_drewN | apply below_drew1) | exact HB.out)) hb); have n1_ := Aside0.mk (hbox); have n2_ := Aside0.mk ((by rw [hg]; exact (below_size (by repeat (first | (with_reducible first | exact HB.out | apply below_alloc | apply pw_below_drewN | apply below_drew1) | exact HB.out))) : w.heap.size ≤ gb102)); have n3_ := Aside0.mk ((by rw [hg]; exact (below_size (by repeat (first | (with_reducible first | exact HB.out | apply below_alloc | apply pw_below_drewN | apply below_drew1) | exact HB.out))) : w.heap.size ≤ gb102)); clear HB; have HB := n0_; have BK102 := n1_; have GW102 := n2_; have GE102 := n3_; clear n0_ n1_ n2_ n3_; clear hb hbox hg; have hcz12_0 : w11.cell? ⟨gb102, 0, none⟩ = some (.int .i64 a0_0) := (blk_cell BK102.out 0).trans rfl; have hcz12_1 : w11.cell? ⟨gb102, 1, none⟩ = some (.int .i64 a0_1) := (blk_cell BK102.out 1).trans rfl; have hcz12_2 : w11.cell? ⟨gb102, 2, none⟩ = some (.int .i64 a0_2) := (blk_cell BK102.out 2).trans rfl; have hfz12_0 := blk_frozen BK102.out 0; have hfz12_1 := blk_frozen BK102.out 1; have hfz12_2 := blk_frozen BK102.out 2))
            go_ret
            exact ⟨by first | rfl | (simp [errW_none, errW_some] <;> rfl) | (simp [*, errW_none, errW_some] <;> rfl), by repeat (first | (with_reducible first | exact HB.out | apply below_alloc | apply pw_below_drewN | apply below_drew1 | refine below_set ?_ GE102.out) | exact HB.out)⟩
        · rw [if_neg c7] at H
          have c7b0 : decide (a1 ≤ 1000000000000000) = false := decide_eq_false c7
          clear c7
          obtain rfl := Option.some.inj H
          go_enter Tryd.func14, Tryd.ntmps14
          go_wp2_with (first | ((with_reducible refine gate_dst (N := 3) rfl ?_); refine box_event ?hg (N := 3) ?hd (cs := #[.int .i64 a0_0, .int .i64 a0_1, .int .i64 a0_2]) (t := 23) ?hr ?_; (case hd => rfl); (case hg => rfl); (case hr => first | (go_simp; done) | (go_simp; rfl)); intro gb102 hg w13 hbox hb; have n0_ := Aside0.mk (below_step (by repeat (first | (with_reducible first | exact HB.out | apply below_alloc | apply pw_below_drewN | apply below_drew1) | exact HB.out)) hb); have n1_ := Aside0.mk (hbox); have n2_ := Aside0.mk ((by rw [hg]; exact (below_size (by repeat (first | (with_reducible first | exact HB.out | apply below_alloc | apply pw_below_drewN | apply below_drew1) | exact HB.out))) : w.heap.size ≤ gb102)); have n3_ := Aside0.mk ((by rw [hg]; exact (below_size (by repeat (first | (with_reducible first | exact HB.out | apply below_alloc | apply pw_below_drewN | apply below_drew1) | exact HB.out))) : w.heap.size ≤ gb102)); clear HB; have HB := n0_; have BK102 := n1_; have GW102 := n2_; have GE102 := n3_; clear n0_ n1_ n2_ n3_; clear hb hbox hg; have hcz14_0 : w13.cell? ⟨gb102, 0, none⟩ = some (.int .i64 a0_0) := (blk_cell BK102.out 0).trans rfl; have hcz14_1 : w13.cell? ⟨gb102, 1, none⟩ = some (.int .i64 a0_1) := (blk_cell BK102.out 1).trans rfl; have hcz14_2 : w13.cell? ⟨gb102, 2, none⟩ = some (.int .i64 a0_2) := (blk_cell BK102.out 2).trans rfl; have hfz14_0 := blk_frozen BK102.out 0; have hfz14_1 := blk_frozen BK102.out 1; have hfz14_2 := blk_frozen BK102.out 2))
          go_ret
          exact ⟨by first | rfl | (simp [errW_none, errW_some] <;> rfl) | (simp [*, errW_none, errW_some] <;> rfl), by repeat (first | (with_reducible first | exact HB.out | apply below_alloc | apply pw_below_drewN | apply below_drew1 | refine below_set ?_ GE102.out) | exact HB.out)⟩
      · rw [if_neg c6] at H
        have c6b0 : decide (a0_2 ≤ 1000000000000000) = false := decide_eq_false c6
        clear c6
        obtain rfl := Option.some.inj H
        go_enter Tryd.func14, Tryd.ntmps14
        go_wp2_with (first | ((with_reducible refine gate_dst (N := 3) rfl ?_); refine box_event ?hg (N := 3) ?hd (cs := #[.int .i64 a0_0, .int .i64 a0_1, .int .i64 a0_2]) (t := 23) ?hr ?_; (case hd => rfl); (case hg => rfl); (case hr => first | (go_simp; done) | (go_simp; rfl)); intro gb102 hg w15 hbox hb; have n0_ := Aside0.mk (below_step (by repeat (first | (with_reducible first | exact HB.out | apply below_alloc | apply pw_below_drewN | apply below_drew1) | exact HB.out)) hb); have n1_ := Aside0.mk (hbox); have n2_ := Aside0.mk ((by rw [hg]; exact (below_size (by repeat (first | (with_reducible first | exact HB.out | apply below_alloc | apply pw_below_drewN | apply below_drew1) | exact HB.out))) : w.heap.size ≤ gb102)); have n3_ := Aside0.mk ((by rw [hg]; exact (below_size (by repeat (first | (with_reducible first | exact HB.out | apply below_alloc | apply pw_below_drewN | apply below_drew1) | exact HB.out))) : w.heap.size ≤ gb102)); clear HB; have HB := n0_; have BK102 := n1_; have GW102 := n2_; have GE102 := n3_; clear n0_ n1_ n2_ n3_; clear hb hbox hg; have hcz16_0 : w15.cell? ⟨gb102, 0, none⟩ = some (.int .i64 a0_0) := (blk_cell BK102.out 0).trans rfl; have hcz16_1 : w15.cell? ⟨gb102, 1, none⟩ = some (.int .i64 a0_1) := (blk_cell BK102.out 1).trans rfl; have hcz16_2 : w15.cell? ⟨gb102, 2, none⟩ = some (.int .i64 a0_2) := (blk_cell BK102.out 2).trans rfl; have hfz16_0 := blk_frozen BK102.out 0; have hfz16_1 := blk_frozen BK102.out 1; have hfz16_2 := blk_frozen BK102.out 2))
        go_ret
        exact ⟨by first | rfl | (simp [errW_none, errW_some] <;> rfl) | (simp [*, errW_none, errW_some] <;> rfl), by repeat (first | (with_reducible first | exact HB.out | apply below_alloc | apply pw_below_drewN | apply below_drew1 | refine below_set ?_ GE102.out) | exact HB.out)⟩
    · rw [if_neg c5] at H
      have c5b0 : decide (a0_1 ≤ 1000000000000000) = false := decide_eq_false c5
      clear c5
      obtain rfl := Option.some.inj H
      go_enter Tryd.func14, Tryd.ntmps14
      go_wp2_with (first | ((with_reducible refine gate_dst (N := 3) rfl ?_); refine box_event ?hg (N := 3) ?hd (cs := #[.int .i64 a0_0, .int .i64 a0_1, .int .i64 a0_2]) (t := 23) ?hr ?_; (case hd => rfl); (case hg => rfl); (case hr => first | (go_simp; done) | (go_simp; rfl)); intro gb102 hg w17 hbox hb; have n0_ := Aside0.mk (below_step (by repeat (first | (with_reducible first | exact HB.out | apply below_alloc | apply pw_below_drewN | apply below_drew1) | exact HB.out)) hb); have n1_ := Aside0.mk (hbox); have n2_ := Aside0.mk ((by rw [hg]; exact (below_size (by repeat (first | (with_reducible first | exact HB.out | apply below_alloc | apply pw_below_drewN | apply below_drew1) | exact HB.out))) : w.heap.size ≤ gb102)); have n3_ := Aside0.mk ((by rw [hg]; exact (below_size (by repeat (first | (with_reducible first | exact HB.out | apply below_alloc | apply pw_below_drewN | apply below_drew1) | exact HB.out))) : w.heap.size ≤ gb102)); clear HB; have HB := n0_; have BK102 := n1_; have GW102 := n2_; have GE102 := n3_; clear n0_ n1_ n2_ n3_; clear hb hbox hg; have hcz18_0 : w17.cell? ⟨gb102, 0, none⟩ = some (.int .i64 a0_0) := (blk_cell BK102.out 0).trans rfl; have hcz18_1 : w17.cell? ⟨gb102, 1, none⟩ = some (.int .i64 a0_1) := (blk_cell BK102.out 1).trans rfl; have hcz18_2 : w17.cell? ⟨gb102, 2, none⟩ = some (.int .i64 a0_2) := (blk_cell BK102.out 2).trans rfl; have hfz18_0 := blk_frozen BK102.out 0; have hfz18_1 := blk_frozen BK102.out 1; have hfz18_2 := blk_frozen BK102.out 2))
      go_ret
      exact ⟨by first | rfl | (simp [errW_none, errW_some] <;> rfl) | (simp [*, errW_none, errW_some] <;> rfl), by repeat (first | (with_reducible first | exact HB.out | apply below_alloc | apply pw_below_drewN | apply below_drew1 | refine below_set ?_ GE102.out) | exact HB.out)⟩
  · rw [if_neg c4] at H
    have c4b0 : decide (a0_0 ≤ 1000000000000000) = false := decide_eq_false c4
    clear c4
    obtain rfl := Option.some.inj H
    go_enter Tryd.func14, Tryd.ntmps14
    go_wp2_with (first | ((with_reducible refine gate_dst (N := 3) rfl ?_); refine box_event ?hg (N := 3) ?hd (cs := #[.int .i64 a0_0, .int .i64 a0_1, .int .i64 a0_2]) (t := 23) ?hr ?_; (case hd => rfl); (case hg => rfl); (case hr => first | (go_simp; done) | (go_simp; rfl)); intro gb102 hg w19 hbox hb; have n0_ := Aside0.mk (below_step (by repeat (first | (with_reducible first | exact HB.out | apply below_alloc | apply pw_below_drewN | apply below_drew1) | exact HB.out)) hb); have n1_ := Aside0.mk (hbox); have n2_ := Aside0.mk ((by rw [hg]; exact (below_size (by repeat (first | (with_reducible first | exact HB.out | apply below_alloc | apply pw_below_drewN | apply below_drew1) | exact HB.out))) : w.heap.size ≤ gb102)); have n3_ := Aside0.mk ((by rw [hg]; exact (below_size (by repeat (first | (with_reducible first | exact HB.out | apply below_alloc | apply pw_below_drewN | apply below_drew1) | exact HB.out))) : w.heap.size ≤ gb102)); clear HB; have HB := n0_; have BK102 := n1_; have GW102 := n2_; have GE102 := n3_; clear n0_ n1_ n2_ n3_; clear hb hbox hg; have hcz20_0 : w19.cell? ⟨gb102, 0, none⟩ = some (.int .i64 a0_0) := (blk_cell BK102.out 0).trans rfl; have hcz20_1 : w19.cell? ⟨gb102, 1, none⟩ = some (.int .i64 a0_1) := (blk_cell BK102.out 1).trans rfl; have hcz20_2 : w19.cell? ⟨gb102, 2, none⟩ = some (.int .i64 a0_2) := (blk_cell BK102.out 2).trans rfl; have hfz20_0 := blk_frozen BK102.out 0; have hfz20_1 := blk_frozen BK102.out 1; have hfz20_2 := blk_frozen BK102.out 2))
    go_ret
    exact ⟨by first | rfl | (simp [errW_none, errW_some] <;> rfl) | (simp [*, errW_none, errW_some] <;> rfl), by repeat (first | (with_reducible first | exact HB.out | apply below_alloc | apply pw_below_drewN | apply below_drew1 | refine below_set ?_ GE102.out) | exact HB.out)⟩

-- NOT PRINTED: function 31 (bits_Add64)

/-! ### ledger_wide_plus: function 25 (by hand) -/
def ledger_wide_plus.c (lo x : Int) : Int := (lo + x % 18446744073709551616) / 18446744073709551616
def ledger_wide_plus.s (lo x : Int) : Int := (lo + x % 18446744073709551616) % 18446744073709551616
theorem ledger_wide_plus.at (x y : Int) (hx : 0 ≤ x) (hx1 : x ≤ 18446744073709551615) (w : World) :
    (callFunc 31 #[.int .u64 x, .int .u64 (IntKind.u64.wrap y), .int .u64 0]).run Tryd.prog w =
      .ok (.value (.tuple #[.int .u64 (ledger_wide_plus.s x y), .int .u64 (ledger_wide_plus.c x y)])) w := by
  rw [Hand.u64_wrap, run_callFunc_extern Tryd.func31 (by kernel_rfl) (by kernel_rfl) (by kernel_rfl) (e := add64Entry) (by kernel_rfl), run_add64 x (y % 18446744073709551616) 0 hx (by omega) (by omega) (by omega)]
  simp only [Result.andThen, Int.add_zero, ledger_wide_plus.s, ledger_wide_plus.c]
theorem ledger_wide_plus.bounds (lo x : Int) (h0 : 0 ≤ lo) (h1 : lo ≤ 18446744073709551615) : 0 ≤ ledger_wide_plus.c lo x ∧ ledger_wide_plus.c lo x ≤ 1 ∧ 0 ≤ ledger_wide_plus.s lo x ∧ ledger_wide_plus.s lo x ≤ 18446744073709551615 := by
  unfold ledger_wide_plus.c ledger_wide_plus.s; omega
def ledger_wide_plus.f (a0_0 a0_1 a1 : Int) : Option (Int × Int) := if 0 ≤ a0_1 ∧ a0_1 ≤ 18446744073709551615 then some (wrap64 (wrap64 (a0_0 + a1 / 9223372036854775808) + ledger_wide_plus.c a0_1 a1), ledger_wide_plus.s a0_1 a1) else none
set_option maxRecDepth 100000 in
set_option maxHeartbeats 2000000 in
theorem ledger_wide_plus.calls (a0_0 : Int) (a0_1 : Int) (a1 : Int) (r1 : Int) (r2 : Int) (w : World) (h : ledger_wide_plus.f a0_0 a0_1 a1 = some (r1, r2)) :
    Calls Tryd.prog 25 #[.agg #[.int .i64 a0_0, .int .u64 a0_1], .int .i64 a1] w fun e w' => e = .returned (.agg #[.int .i64 r1, .int .u64 r2]) ∧ Below w.heap.size w w' := by
  have hu1 := Tryd.underlying59
  have HB := Aside0.mk (Below.refl w.heap.size w)
  unfold ledger_wide_plus.f at h
  split at h
  case isFalse => cases h
  rename_i hg0
  have had := fun W => ledger_wide_plus.at a0_1 a1 hg0.1 hg0.2 W
  obtain ⟨c0, c1, s0, s1⟩ := ledger_wide_plus.bounds a0_1 a1 hg0.1 hg0.2
  obtain ⟨cc, hcc⟩ : ∃ z, z = ledger_wide_plus.c a0_1 a1 := ⟨_, rfl⟩
  obtain ⟨ss, hss⟩ : ∃ z, z = ledger_wide_plus.s a0_1 a1 := ⟨_, rfl⟩
  simp only [← hcc, ← hss] at had h c0 c1 s0 s1
  simp only [Option.some.injEq, Prod.mk.injEq] at h
  obtain ⟨rfl, rfl⟩ := h
  have hw1 : wrap64 cc = cc := (by unfold wrap64; omega)
  clear hcc hss hg0
  go_enter Tryd.func25, Tryd.ntmps25
  go_wp2_with (first | ((with_reducible refine gate_dst (N := 2) rfl ?_); refine box_event ?hg (N := 2) ?hd (cs := #[.int .i64 a0_0, .int .u64 a0_1]) (t := 59) ?hr ?_; (case hd => rfl); (case hg => rfl); (case hr => first | (go_simp; done) | (go_simp; rfl)); intro gb1 hg w3 hbox hb; have n0_ := Aside0.mk (below_step (by repeat (first | (with_reducible first | exact HB.out | apply below_alloc | apply pw_below_drewN | apply below_drew1) | exact HB.out)) hb); have n1_ := Aside0.mk hbox; have n3_ := Aside0.mk ((by rw [hg]; exact (below_size (by repeat (first | (with_reducible first | exact HB.out | apply below_alloc | apply pw_below_drewN | apply below_drew1) | exact HB.out))) : w.heap.size ≤ gb1)); clear HB; have HB := n0_; have BK1 := n1_; have GE1 := n3_; clear n0_ n1_ n3_; clear hb hbox hg) | ((with_reducible refine gate_dst (N := 4) rfl ?_); refine box_event ?hg (N := 4) ?hd (cs := #[.int .i64 0, .int .u64 0]) (t := 59) ?hr ?_; (case hd => rfl); (case hg => rfl); (case hr => first | (go_simp; done) | (go_simp; rfl)); intro gb2 hg w4 hbox hb; have n0_ := Aside0.mk (blk_below (g := gb1) (o := .cells #[.int .i64 a0_0, .int .u64 a0_1] 59 (0, 0)) (by (with_reducible repeat (first | refine blk_drewN ?_ _ | refine blk_drew ?_ | refine blk_alloc ?_ _)); exact BK1.out) hb); have n1_ := Aside0.mk (below_step (by repeat (first | (with_reducible first | exact HB.out | apply below_alloc | apply pw_below_drewN | apply below_drew1 | refine below_set ?_ GE1.out) | exact HB.out)) hb); have n2_ := Aside0.mk (hbox); have n4_ := Aside0.mk ((by rw [hg]; exact (below_size (by repeat (first | (with_reducible first | exact HB.out | apply below_alloc | apply pw_below_drewN | apply below_drew1 | refine below_set ?_ GE1.out) | exact HB.out))) : w.heap.size ≤ gb2)); have hnb : gb1 ≠ gb2 := (by rw [hg]; exact Nat.ne_of_lt (blk_lt (g := gb1) (o := .cells #[.int .i64 a0_0, .int .u64 a0_1] 59 (0, 0)) (by (with_reducible repeat (first | refine blk_drewN ?_ _ | refine blk_drew ?_ | refine blk_alloc ?_ _)); exact BK1.out))); have hnc := hnb.symm; clear BK1; clear HB; have BK1 := n0_; have HB := n1_; have BK2 := n2_; have GE2 := n4_; clear n0_ n1_ n2_ n4_; clear hb hbox hg; have hc0 : w4.cell? ⟨gb1, 0, none⟩ = some (.int .i64 a0_0) := (blk_cell BK1.out 0).trans rfl; have hc1 : w4.cell? ⟨gb1, 1, none⟩ = some (.int .u64 a0_1) := (blk_cell BK1.out 1).trans rfl; have hd0 : w4.cell? ⟨gb2, 0, none⟩ = some (.int .i64 0) := (blk_cell BK2.out 0).trans rfl; have hd1 : w4.cell? ⟨gb2, 1, none⟩ = some (.int .u64 0) := (blk_cell BK2.out 1).trans rfl; have hf1 := blk_frozen BK2.out 0; have hf2 := blk_frozen BK2.out 1))
  refine bodyPost_ret (results_cell_row rfl _ _ gb2 59 #[.int .i64 (wrap64 (wrap64 (a0_0 + a1 / 9223372036854775808) + cc)), .int .u64 ss] (0, 0) _ rfl (by (with_reducible repeat (first | refine blk_drewN ?_ _ | refine blk_drew ?_ | refine blk_alloc ?_ _)); refine blk_put (cs := #[.int .i64 (wrap64 (wrap64 (a0_0 + a1 / 9223372036854775808) + cc)), .int .u64 0]) ?_ 1 _ rfl; (with_reducible repeat (first | refine blk_drewN ?_ _ | refine blk_drew ?_ | refine blk_alloc ?_ _)); refine blk_put (cs := #[.int .i64 0, .int .u64 0]) ?_ 0 _ rfl; (with_reducible repeat (first | refine blk_drewN ?_ _ | refine blk_drew ?_ | refine blk_alloc ?_ _)); exact BK2.out) Tryd.underlying59 rfl (by kernel_rfl)) rfl ?_
  exact ⟨rfl, by repeat (first | (with_reducible first | exact HB.out | apply below_alloc | apply pw_below_drewN | apply below_drew1 | refine below_set ?_ GE1.out | refine below_set ?_ GE2.out) | exact HB.out)⟩

end Go.Proofs.YtleeifpdgnjbdaaDoor.B
