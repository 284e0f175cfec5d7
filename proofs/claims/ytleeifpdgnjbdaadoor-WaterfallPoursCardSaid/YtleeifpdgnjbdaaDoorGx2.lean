-- Written by stubprint.py (wip/) of this work, over the kit's print.py; parts by hand.
import Derived.Test.YtleeifpdgnjbdaaDoorGx0
import Derived.Test.YtleeifpdgnjbdaaDoorGx1
namespace Go.Proofs.YtleeifpdgnjbdaaDoor.G
open Go.RowKit Go.Proofs.YtleeifpdgnjbdaaDoorW.PrintWords Go.Proofs.YtleeifpdgnjbdaaDoorW.PrintLast Go.Proofs.YtleeifpdgnjbdaaDoorW.PrintMore
attribute [local go_sem] max2_int min2_int max_two min_two max_three min_three max_four min_four   -- for this text's walks alone
set_option linter.unusedVariables false
set_option linter.unusedSimpArgs false

/-! ### waterfall_Allocate: function 9 (by hand) -/
/-- What one kind takes: so far fees, interest, principal, and what is left. -/
def waterfall_Allocate.step (kind f i p : Int) (s : Int × Int × Int × Int) : Int × Int × Int × Int :=
  if kind = 3 then (mn f s.2.2.2, s.2.1, s.2.2.1, wrap64 (s.2.2.2 - mn f s.2.2.2)) else if kind = 2 then (s.1, mn i s.2.2.2, s.2.2.1, wrap64 (s.2.2.2 - mn i s.2.2.2)) else (s.1, s.2.1, mn p s.2.2.2, wrap64 (s.2.2.2 - mn p s.2.2.2))
def waterfall_Allocate.st (k0 k1 k2 f i p a : Int) : Nat → Int × Int × Int × Int
  | 0 => (0, 0, 0, a)
  | n + 1 => waterfall_Allocate.step (if n = 0 then k0 else if n = 1 then k1 else k2) f i p (waterfall_Allocate.st k0 k1 k2 f i p a n)
def waterfall_Allocate.f (a0 a1_0 a1_1 a1_2 a2 : Int) : Option (Int × Int × Int × Int × Int × Int) := (waterfall_Order.f a0).bind fun q =>
  some (if q.2.2.2 = false ∨ a1_0 < 0 ∨ a1_1 < 0 ∨ a1_2 < 0 then (0, 0, 0, 0, 0, 2) else if a2 < 1 then (0, 0, 0, 0, 0, 4) else
    let s := waterfall_Allocate.st q.1 q.2.1 q.2.2.1 a1_0 a1_1 a1_2 a2 3
    (s.1, s.2.1, s.2.2.1, s.2.2.2, 0, 0))
def waterfall_Allocate.row (s : Int × Int × Int × Int) : Array Value := #[.int .i64 s.1, .int .i64 s.2.1, .int .i64 s.2.2.1, .int .i64 0, .int .i64 0]
theorem waterfall_Allocate.idx3 (x y z : Int) (j : Nat) (hj : j < 3) : ∀ W : World, (Instr.index 24 (.agg #[.int .i64 x, .int .i64 y, .int .i64 z]) (.int .i64 (j : Int))).run Tryd.prog W = .ok (.int .i64 (if j = 0 then x else if j = 1 then y else z)) W := by
  intro W
  have : j = 0 ∨ j = 1 ∨ j = 2 := by omega
  rcases this with rfl | rfl | rfl
  · exact (by kernel_rfl : (Instr.index 24 (.agg #[.int .i64 x, .int .i64 y, .int .i64 z]) (.int .i64 0)).run Tryd.prog W = .ok (.int .i64 x) W)
  · exact (by kernel_rfl : (Instr.index 24 (.agg #[.int .i64 x, .int .i64 y, .int .i64 z]) (.int .i64 1)).run Tryd.prog W = .ok (.int .i64 y) W)
  · exact (by kernel_rfl : (Instr.index 24 (.agg #[.int .i64 x, .int .i64 y, .int .i64 z]) (.int .i64 2)).run Tryd.prog W = .ok (.int .i64 z) W)
set_option maxRecDepth 100000 in
set_option maxHeartbeats 8000000 in
theorem waterfall_Allocate.calls (a0 a1_0 a1_1 a1_2 a2 : Int) (r1 r2 r3 r4 r5 r6 : Int) (w : World) (hL : Laid w) (h : waterfall_Allocate.f a0 a1_0 a1_1 a1_2 a2 = some (r1, r2, r3, r4, r5, r6)) :
    Calls Tryd.prog 9 #[.int .i64 a0, .agg #[.int .i64 a1_0, .int .i64 a1_1, .int .i64 a1_2], .int .i64 a2] w fun e w' => e = .returned (.tuple #[.agg #[.int .i64 r1, .int .i64 r2, .int .i64 r3, .int .i64 r4, .int .i64 r5], .int .i64 r6]) ∧ Below w.heap.size w w' := by
  have HL := Aside0.mk hL
  have hu1 := Tryd.underlying24
  have hu2 := Tryd.underlying23
  have hu3 := Tryd.underlying28
  have HB := Aside0.mk (Below.refl w.heap.size w)
  unfold waterfall_Allocate.f at h
  obtain ⟨⟨k0, k1, k2, kok⟩, oe, h⟩ := Option.bind_eq_some_iff.mp h
  have OE := Aside0.mk oe
  clear oe hL
  have h := Option.some.inj h
  dsimp only at h
  have H0 := Aside0.mk h
  clear h
  go_enter Tryd.func9, Tryd.ntmps9
  go_upto_region 2 with (first | ((with_reducible refine gate_dst (N := 4) rfl ?_); refine box_event ?hg (N := 4) ?hd (cs := #[.int .i64 a1_0, .int .i64 a1_1, .int .i64 a1_2]) (t := 23) ?hr ?_; (case hd => rfl); (case hg => rfl); (case hr => first | (go_simp; done) | (go_simp; rfl)); intro gO hg w1 hbox hb; have n0_ := Aside0.mk (below_step (HB.out) hb); have GO := Aside0.mk (show w.heap.size ≤ gO from by rw [hg]; exact below_size (HB.out)); clear HB; have HB := n0_; clear n0_; have BO := Aside0.mk hbox; clear hbox hb hg) | ((with_reducible refine gate_dst (N := 6) rfl ?_); refine box_event ?hg (N := 6) ?hd (cs := #[.int .i64 0, .int .i64 0, .int .i64 0, .int .i64 0, .int .i64 0]) (t := 28) ?hr ?_; (case hd => rfl); (case hg => rfl); (case hr => first | (go_simp; done) | (go_simp; rfl)); intro gR hg w2 hbox hb; have n0_ := Aside0.mk (below_step (HB.out) hb); have GR := Aside0.mk (show w.heap.size ≤ gR from by rw [hg]; exact below_size (HB.out)); have e_ := BO.out; have NOR : gO ≠ gR := (by rw [hg]; exact Nat.ne_of_lt (blk_lt e_)); have NRO := NOR.symm; have n_ := Aside0.mk (blk_below e_ hb); clear BO e_; have BO := n_; clear n_; clear HB; have HB := n0_; clear n0_; have BR := Aside0.mk hbox; clear hbox hb hg) | (go_at_call 7; refine (waterfall_Order.calls a0 k0 k1 k2 _ _ ?cl OE.out).mono ?_; (case cl => exact laid_at HL.out (HB.out)); rintro e w3 ⟨rfl, hb⟩; have n0_ := Aside0.mk (below_step HB.out hb); have n1_ := Aside0.mk (blk_below BO.out hb); have n2_ := Aside0.mk (blk_below BR.out hb); clear HB BO BR hb; have HB := n0_; have BO := n1_; have BR := n2_; clear n0_ n1_ n2_) | ((with_reducible refine gate_dst (N := 8) rfl ?_); refine box_event ?hg (N := 8) ?hd (cs := #[.int .i64 0, .int .i64 0, .int .i64 0]) (t := 24) ?hr ?_; (case hd => rfl); (case hg => rfl); (case hr => first | (go_simp; done) | (go_simp; rfl)); intro gK hg w4 hbox hb; have n0_ := Aside0.mk (below_step (HB.out) hb); have GK := Aside0.mk (show w.heap.size ≤ gK from by rw [hg]; exact below_size (HB.out)); have e_ := BO.out; have NOK : gO ≠ gK := (by rw [hg]; exact Nat.ne_of_lt (blk_lt e_)); have NKO := NOK.symm; have n_ := Aside0.mk (blk_below e_ hb); clear BO e_; have BO := n_; clear n_; have e_ := BR.out; have NRK : gR ≠ gK := (by rw [hg]; exact Nat.ne_of_lt (blk_lt e_)); have NKR := NRK.symm; have n_ := Aside0.mk (blk_below e_ hb); clear BR e_; have BR := n_; clear n_; clear HB; have HB := n0_; clear n0_; have BK := Aside0.mk hbox; clear hbox hb hg; have kc0 : w4.cell? ⟨gK, 0, none⟩ = some (.int .i64 0) := (blk_cell BK.out 0).trans rfl; have kf0 := blk_frozen BK.out 0; have kc1 : w4.cell? ⟨gK, 1, none⟩ = some (.int .i64 0) := (blk_cell BK.out 1).trans rfl; have kf1 := blk_frozen BK.out 1; have kc2 : w4.cell? ⟨gK, 2, none⟩ = some (.int .i64 0) := (blk_cell BK.out 2).trans rfl; have kf2 := blk_frozen BK.out 2; have oc0 : w4.cell? ⟨gO, 0, none⟩ = some (.int .i64 a1_0) := (blk_cell BO.out 0).trans rfl; have of0 := blk_frozen BO.out 0; have oc1 : w4.cell? ⟨gO, 1, none⟩ = some (.int .i64 a1_1) := (blk_cell BO.out 1).trans rfl; have of1 := blk_frozen BO.out 1; have oc2 : w4.cell? ⟨gO, 2, none⟩ = some (.int .i64 a1_2) := (blk_cell BO.out 2).trans rfl; have of2 := blk_frozen BO.out 2; have rc0 : w4.cell? ⟨gR, 0, none⟩ = some (.int .i64 0) := (blk_cell BR.out 0).trans rfl; have rf0 := blk_frozen BR.out 0; have rc1 : w4.cell? ⟨gR, 1, none⟩ = some (.int .i64 0) := (blk_cell BR.out 1).trans rfl; have rf1 := blk_frozen BR.out 1; have rc2 : w4.cell? ⟨gR, 2, none⟩ = some (.int .i64 0) := (blk_cell BR.out 2).trans rfl; have rf2 := blk_frozen BR.out 2; have rc3 : w4.cell? ⟨gR, 3, none⟩ = some (.int .i64 0) := (blk_cell BR.out 3).trans rfl; have rf3 := blk_frozen BR.out 3; have rc4 : w4.cell? ⟨gR, 4, none⟩ = some (.int .i64 0) := (blk_cell BR.out 4).trans rfl; have rf4 := blk_frozen BR.out 4))
  (try simp only [Act.put, List.setIfInBounds_toArray, List.set_cons_zero, List.set_cons_succ])
  have h := H0.out
  clear H0
  by_cases cb : kok = false
  · rw [if_pos (.inl cb)] at h
    simp only [Prod.mk.injEq] at h
    obtain ⟨rfl, rfl, rfl, rfl, rfl, rfl⟩ := h
    subst cb
    go_wp2_with (first | ((with_reducible refine gate_dst (N := 10) rfl ?_); refine box_event ?hg (N := 10) ?hd (cs := #[.int .i64 0, .int .i64 0, .int .i64 0, .int .i64 0, .int .i64 0]) (t := 28) ?hr ?_; (case hd => rfl); (case hg => rfl); (case hr => first | (go_simp; done) | (go_simp; rfl)); intro gP hg w5 hbox hb; have n0_ := Aside0.mk (below_step (by refine below_set ?_ GK.out; refine below_set ?_ GK.out; refine below_set ?_ GK.out; exact HB.out) hb); have GP := Aside0.mk (show w.heap.size ≤ gP from by rw [hg]; exact below_size (by refine below_set ?_ GK.out; refine below_set ?_ GK.out; refine below_set ?_ GK.out; exact HB.out)); have eo_ := (show (((w4.setCell ⟨gK, 0, none⟩ (.int .i64 k0)).setCell ⟨gK, 1, none⟩ (.int .i64 k1)).setCell ⟨gK, 2, none⟩ (.int .i64 k2)).heap[gO]? = some (.cells #[.int .i64 a1_0, .int .i64 a1_1, .int .i64 a1_2] 23 (0, 0)) from by refine blk_far ?_ NOK _; refine blk_far ?_ NOK _; refine blk_far ?_ NOK _; exact BO.out); have er_ := (show (((w4.setCell ⟨gK, 0, none⟩ (.int .i64 k0)).setCell ⟨gK, 1, none⟩ (.int .i64 k1)).setCell ⟨gK, 2, none⟩ (.int .i64 k2)).heap[gR]? = some (.cells #[.int .i64 0, .int .i64 0, .int .i64 0, .int .i64 0, .int .i64 0] 28 (0, 0)) from by refine blk_far ?_ NRK _; refine blk_far ?_ NRK _; refine blk_far ?_ NRK _; exact BR.out); have NOP : gO ≠ gP := (by rw [hg]; exact Nat.ne_of_lt (blk_lt eo_)); have NPO := NOP.symm; have NRP : gR ≠ gP := (by rw [hg]; exact Nat.ne_of_lt (blk_lt er_)); have NPR := NRP.symm; have m1_ := Aside0.mk (blk_below eo_ hb); have m2_ := Aside0.mk (blk_below er_ hb); clear BO BR eo_ er_; have BO := m1_; have BR := m2_; clear m1_ m2_; have e_ := (show (((w4.setCell ⟨gK, 0, none⟩ (.int .i64 k0)).setCell ⟨gK, 1, none⟩ (.int .i64 k1)).setCell ⟨gK, 2, none⟩ (.int .i64 k2)).heap[gK]? = some (.cells #[.int .i64 k0, .int .i64 k1, .int .i64 k2] 24 (0, 0)) from by refine blk_put (cs := #[.int .i64 k0, .int .i64 k1, .int .i64 0]) ?_ 2 _ rfl; refine blk_put (cs := #[.int .i64 k0, .int .i64 0, .int .i64 0]) ?_ 1 _ rfl; refine blk_put (cs := #[.int .i64 0, .int .i64 0, .int .i64 0]) ?_ 0 _ rfl; exact BK.out); have NKP : gK ≠ gP := (by rw [hg]; exact Nat.ne_of_lt (blk_lt e_)); have NPK := NKP.symm; have n_ := Aside0.mk (blk_below e_ hb); clear BK e_; have BK := n_; clear n_; clear HB; have HB := n0_; clear n0_; have BP := Aside0.mk hbox; clear hbox hb hg; have Kc0 : w5.cell? ⟨gK, 0, none⟩ = some (.int .i64 k0) := (blk_cell BK.out 0).trans rfl; have Kf0 := blk_frozen BK.out 0; have Kc1 : w5.cell? ⟨gK, 1, none⟩ = some (.int .i64 k1) := (blk_cell BK.out 1).trans rfl; have Kf1 := blk_frozen BK.out 1; have Kc2 : w5.cell? ⟨gK, 2, none⟩ = some (.int .i64 k2) := (blk_cell BK.out 2).trans rfl; have Kf2 := blk_frozen BK.out 2))
    refine bodyPost_ret (results_ct rfl _ _ gR 28 #[.int .i64 0, .int .i64 0, .int .i64 0, .int .i64 0, .int .i64 0] (0, 0) _ rfl ?hz Tryd.underlying28 rfl (by kernel_rfl)) rfl ?_
    case hz =>
      (with_reducible repeat (first | refine blk_drewN ?_ _ | refine blk_drew ?_))
      refine blk_put (cs := #[.int .i64 0, .int .i64 0, .int .i64 0, .int .i64 0, .int .i64 0]) ?_ 4 _ (by rfl)
      (with_reducible repeat (first | refine blk_drewN ?_ _ | refine blk_drew ?_))
      refine blk_put (cs := #[.int .i64 0, .int .i64 0, .int .i64 0, .int .i64 0, .int .i64 0]) ?_ 3 _ (by rfl)
      (with_reducible repeat (first | refine blk_drewN ?_ _ | refine blk_drew ?_))
      refine blk_put (cs := #[.int .i64 0, .int .i64 0, .int .i64 0, .int .i64 0, .int .i64 0]) ?_ 2 _ (by rfl)
      (with_reducible repeat (first | refine blk_drewN ?_ _ | refine blk_drew ?_))
      refine blk_put (cs := #[.int .i64 0, .int .i64 0, .int .i64 0, .int .i64 0, .int .i64 0]) ?_ 1 _ (by rfl)
      (with_reducible repeat (first | refine blk_drewN ?_ _ | refine blk_drew ?_))
      refine blk_put (cs := #[.int .i64 0, .int .i64 0, .int .i64 0, .int .i64 0, .int .i64 0]) ?_ 0 _ (by rfl)
      (with_reducible repeat (first | refine blk_drewN ?_ _ | refine blk_drew ?_))
      refine blk_far ?_ NRK _
      (with_reducible repeat (first | refine blk_drewN ?_ _ | refine blk_drew ?_))
      refine blk_far ?_ NRK _
      (with_reducible repeat (first | refine blk_drewN ?_ _ | refine blk_drew ?_))
      refine blk_far ?_ NRK _
      (with_reducible repeat (first | refine blk_drewN ?_ _ | refine blk_drew ?_))
      exact BR.out
    exact ⟨rfl, by repeat (with_reducible first | exact HB.out | apply pw_below_drewN | apply below_drew1 | refine below_set ?_ GO.out | refine below_set ?_ GR.out | refine below_set ?_ GK.out | refine below_set ?_ GP.out)⟩
  · have ck : kok = true := by cases kok; exact absurd rfl cb; rfl
    subst ck
    by_cases q0 : a1_0 < 0
    · rw [if_pos (.inr (.inl q0))] at h
      simp only [Prod.mk.injEq] at h
      obtain ⟨rfl, rfl, rfl, rfl, rfl, rfl⟩ := h
      have d0 : decide (a1_0 < 0) = true := decide_eq_true q0
      clear cb q0
      go_wp2_with (first | ((with_reducible refine gate_dst (N := 10) rfl ?_); refine box_event ?hg (N := 10) ?hd (cs := #[.int .i64 0, .int .i64 0, .int .i64 0, .int .i64 0, .int .i64 0]) (t := 28) ?hr ?_; (case hd => rfl); (case hg => rfl); (case hr => first | (go_simp; done) | (go_simp; rfl)); intro gP hg w5 hbox hb; have n0_ := Aside0.mk (below_step (by refine below_set ?_ GK.out; refine below_set ?_ GK.out; refine below_set ?_ GK.out; exact HB.out) hb); have GP := Aside0.mk (show w.heap.size ≤ gP from by rw [hg]; exact below_size (by refine below_set ?_ GK.out; refine below_set ?_ GK.out; refine below_set ?_ GK.out; exact HB.out)); have eo_ := (show (((w4.setCell ⟨gK, 0, none⟩ (.int .i64 k0)).setCell ⟨gK, 1, none⟩ (.int .i64 k1)).setCell ⟨gK, 2, none⟩ (.int .i64 k2)).heap[gO]? = some (.cells #[.int .i64 a1_0, .int .i64 a1_1, .int .i64 a1_2] 23 (0, 0)) from by refine blk_far ?_ NOK _; refine blk_far ?_ NOK _; refine blk_far ?_ NOK _; exact BO.out); have er_ := (show (((w4.setCell ⟨gK, 0, none⟩ (.int .i64 k0)).setCell ⟨gK, 1, none⟩ (.int .i64 k1)).setCell ⟨gK, 2, none⟩ (.int .i64 k2)).heap[gR]? = some (.cells #[.int .i64 0, .int .i64 0, .int .i64 0, .int .i64 0, .int .i64 0] 28 (0, 0)) from by refine blk_far ?_ NRK _; refine blk_far ?_ NRK _; refine blk_far ?_ NRK _; exact BR.out); have NOP : gO ≠ gP := (by rw [hg]; exact Nat.ne_of_lt (blk_lt eo_)); have NPO := NOP.symm; have NRP : gR ≠ gP := (by rw [hg]; exact Nat.ne_of_lt (blk_lt er_)); have NPR := NRP.symm; have m1_ := Aside0.mk (blk_below eo_ hb); have m2_ := Aside0.mk (blk_below er_ hb); clear BO BR eo_ er_; have BO := m1_; have BR := m2_; clear m1_ m2_; have e_ := (show (((w4.setCell ⟨gK, 0, none⟩ (.int .i64 k0)).setCell ⟨gK, 1, none⟩ (.int .i64 k1)).setCell ⟨gK, 2, none⟩ (.int .i64 k2)).heap[gK]? = some (.cells #[.int .i64 k0, .int .i64 k1, .int .i64 k2] 24 (0, 0)) from by refine blk_put (cs := #[.int .i64 k0, .int .i64 k1, .int .i64 0]) ?_ 2 _ rfl; refine blk_put (cs := #[.int .i64 k0, .int .i64 0, .int .i64 0]) ?_ 1 _ rfl; refine blk_put (cs := #[.int .i64 0, .int .i64 0, .int .i64 0]) ?_ 0 _ rfl; exact BK.out); have NKP : gK ≠ gP := (by rw [hg]; exact Nat.ne_of_lt (blk_lt e_)); have NPK := NKP.symm; have n_ := Aside0.mk (blk_below e_ hb); clear BK e_; have BK := n_; clear n_; clear HB; have HB := n0_; clear n0_; have BP := Aside0.mk hbox; clear hbox hb hg; have Kc0 : w5.cell? ⟨gK, 0, none⟩ = some (.int .i64 k0) := (blk_cell BK.out 0).trans rfl; have Kf0 := blk_frozen BK.out 0; have Kc1 : w5.cell? ⟨gK, 1, none⟩ = some (.int .i64 k1) := (blk_cell BK.out 1).trans rfl; have Kf1 := blk_frozen BK.out 1; have Kc2 : w5.cell? ⟨gK, 2, none⟩ = some (.int .i64 k2) := (blk_cell BK.out 2).trans rfl; have Kf2 := blk_frozen BK.out 2))
      refine bodyPost_ret (results_ct rfl _ _ gR 28 #[.int .i64 0, .int .i64 0, .int .i64 0, .int .i64 0, .int .i64 0] (0, 0) _ rfl ?hz Tryd.underlying28 rfl (by kernel_rfl)) rfl ?_
      case hz =>
        (with_reducible repeat (first | refine blk_drewN ?_ _ | refine blk_drew ?_))
        refine blk_put (cs := #[.int .i64 0, .int .i64 0, .int .i64 0, .int .i64 0, .int .i64 0]) ?_ 4 _ (by rfl)
        (with_reducible repeat (first | refine blk_drewN ?_ _ | refine blk_drew ?_))
        refine blk_put (cs := #[.int .i64 0, .int .i64 0, .int .i64 0, .int .i64 0, .int .i64 0]) ?_ 3 _ (by rfl)
        (with_reducible repeat (first | refine blk_drewN ?_ _ | refine blk_drew ?_))
        refine blk_put (cs := #[.int .i64 0, .int .i64 0, .int .i64 0, .int .i64 0, .int .i64 0]) ?_ 2 _ (by rfl)
        (with_reducible repeat (first | refine blk_drewN ?_ _ | refine blk_drew ?_))
        refine blk_put (cs := #[.int .i64 0, .int .i64 0, .int .i64 0, .int .i64 0, .int .i64 0]) ?_ 1 _ (by rfl)
        (with_reducible repeat (first | refine blk_drewN ?_ _ | refine blk_drew ?_))
        refine blk_put (cs := #[.int .i64 0, .int .i64 0, .int .i64 0, .int .i64 0, .int .i64 0]) ?_ 0 _ (by rfl)
        (with_reducible repeat (first | refine blk_drewN ?_ _ | refine blk_drew ?_))
        refine blk_far ?_ NRK _
        (with_reducible repeat (first | refine blk_drewN ?_ _ | refine blk_drew ?_))
        refine blk_far ?_ NRK _
        (with_reducible repeat (first | refine blk_drewN ?_ _ | refine blk_drew ?_))
        refine blk_far ?_ NRK _
        (with_reducible repeat (first | refine blk_drewN ?_ _ | refine blk_drew ?_))
        exact BR.out
      exact ⟨rfl, by repeat (with_reducible first | exact HB.out | apply pw_below_drewN | apply below_drew1 | refine below_set ?_ GO.out | refine below_set ?_ GR.out | refine below_set ?_ GK.out | refine below_set ?_ GP.out)⟩
    · have d0 : decide (a1_0 < 0) = false := decide_eq_false q0
      by_cases q1 : a1_1 < 0
      · rw [if_pos (.inr (.inr (.inl q1)))] at h
        simp only [Prod.mk.injEq] at h
        obtain ⟨rfl, rfl, rfl, rfl, rfl, rfl⟩ := h
        have d1 : decide (a1_1 < 0) = true := decide_eq_true q1
        clear cb q0 q1
        go_wp2_with (first | ((with_reducible refine gate_dst (N := 10) rfl ?_); refine box_event ?hg (N := 10) ?hd (cs := #[.int .i64 0, .int .i64 0, .int .i64 0, .int .i64 0, .int .i64 0]) (t := 28) ?hr ?_; (case hd => rfl); (case hg => rfl); (case hr => first | (go_simp; done) | (go_simp; rfl)); intro gP hg w5 hbox hb; have n0_ := Aside0.mk (below_step (by refine below_set ?_ GK.out; refine below_set ?_ GK.out; refine below_set ?_ GK.out; exact HB.out) hb); have GP := Aside0.mk (show w.heap.size ≤ gP from by rw [hg]; exact below_size (by refine below_set ?_ GK.out; refine below_set ?_ GK.out; refine below_set ?_ GK.out; exact HB.out)); have eo_ := (show (((w4.setCell ⟨gK, 0, none⟩ (.int .i64 k0)).setCell ⟨gK, 1, none⟩ (.int .i64 k1)).setCell ⟨gK, 2, none⟩ (.int .i64 k2)).heap[gO]? = some (.cells #[.int .i64 a1_0, .int .i64 a1_1, .int .i64 a1_2] 23 (0, 0)) from by refine blk_far ?_ NOK _; refine blk_far ?_ NOK _; refine blk_far ?_ NOK _; exact BO.out); have er_ := (show (((w4.setCell ⟨gK, 0, none⟩ (.int .i64 k0)).setCell ⟨gK, 1, none⟩ (.int .i64 k1)).setCell ⟨gK, 2, none⟩ (.int .i64 k2)).heap[gR]? = some (.cells #[.int .i64 0, .int .i64 0, .int .i64 0, .int .i64 0, .int .i64 0] 28 (0, 0)) from by refine blk_far ?_ NRK _; refine blk_far ?_ NRK _; refine blk_far ?_ NRK _; exact BR.out); have NOP : gO ≠ gP := (by rw [hg]; exact Nat.ne_of_lt (blk_lt eo_)); have NPO := NOP.symm; have NRP : gR ≠ gP := (by rw [hg]; exact Nat.ne_of_lt (blk_lt er_)); have NPR := NRP.symm; have m1_ := Aside0.mk (blk_below eo_ hb); have m2_ := Aside0.mk (blk_below er_ hb); clear BO BR eo_ er_; have BO := m1_; have BR := m2_; clear m1_ m2_; have e_ := (show (((w4.setCell ⟨gK, 0, none⟩ (.int .i64 k0)).setCell ⟨gK, 1, none⟩ (.int .i64 k1)).setCell ⟨gK, 2, none⟩ (.int .i64 k2)).heap[gK]? = some (.cells #[.int .i64 k0, .int .i64 k1, .int .i64 k2] 24 (0, 0)) from by refine blk_put (cs := #[.int .i64 k0, .int .i64 k1, .int .i64 0]) ?_ 2 _ rfl; refine blk_put (cs := #[.int .i64 k0, .int .i64 0, .int .i64 0]) ?_ 1 _ rfl; refine blk_put (cs := #[.int .i64 0, .int .i64 0, .int .i64 0]) ?_ 0 _ rfl; exact BK.out); have NKP : gK ≠ gP := (by rw [hg]; exact Nat.ne_of_lt (blk_lt e_)); have NPK := NKP.symm; have n_ := Aside0.mk (blk_below e_ hb); clear BK e_; have BK := n_; clear n_; clear HB; have HB := n0_; clear n0_; have BP := Aside0.mk hbox; clear hbox hb hg; have Kc0 : w5.cell? ⟨gK, 0, none⟩ = some (.int .i64 k0) := (blk_cell BK.out 0).trans rfl; have Kf0 := blk_frozen BK.out 0; have Kc1 : w5.cell? ⟨gK, 1, none⟩ = some (.int .i64 k1) := (blk_cell BK.out 1).trans rfl; have Kf1 := blk_frozen BK.out 1; have Kc2 : w5.cell? ⟨gK, 2, none⟩ = some (.int .i64 k2) := (blk_cell BK.out 2).trans rfl; have Kf2 := blk_frozen BK.out 2))
        refine bodyPost_ret (results_ct rfl _ _ gR 28 #[.int .i64 0, .int .i64 0, .int .i64 0, .int .i64 0, .int .i64 0] (0, 0) _ rfl ?hz Tryd.underlying28 rfl (by kernel_rfl)) rfl ?_
        case hz =>
          (with_reducible repeat (first | refine blk_drewN ?_ _ | refine blk_drew ?_))
          refine blk_put (cs := #[.int .i64 0, .int .i64 0, .int .i64 0, .int .i64 0, .int .i64 0]) ?_ 4 _ (by rfl)
          (with_reducible repeat (first | refine blk_drewN ?_ _ | refine blk_drew ?_))
          refine blk_put (cs := #[.int .i64 0, .int .i64 0, .int .i64 0, .int .i64 0, .int .i64 0]) ?_ 3 _ (by rfl)
          (with_reducible repeat (first | refine blk_drewN ?_ _ | refine blk_drew ?_))
          refine blk_put (cs := #[.int .i64 0, .int .i64 0, .int .i64 0, .int .i64 0, .int .i64 0]) ?_ 2 _ (by rfl)
          (with_reducible repeat (first | refine blk_drewN ?_ _ | refine blk_drew ?_))
          refine blk_put (cs := #[.int .i64 0, .int .i64 0, .int .i64 0, .int .i64 0, .int .i64 0]) ?_ 1 _ (by rfl)
          (with_reducible repeat (first | refine blk_drewN ?_ _ | refine blk_drew ?_))
          refine blk_put (cs := #[.int .i64 0, .int .i64 0, .int .i64 0, .int .i64 0, .int .i64 0]) ?_ 0 _ (by rfl)
          (with_reducible repeat (first | refine blk_drewN ?_ _ | refine blk_drew ?_))
          refine blk_far ?_ NRK _
          (with_reducible repeat (first | refine blk_drewN ?_ _ | refine blk_drew ?_))
          refine blk_far ?_ NRK _
          (with_reducible repeat (first | refine blk_drewN ?_ _ | refine blk_drew ?_))
          refine blk_far ?_ NRK _
          (with_reducible repeat (first | refine blk_drewN ?_ _ | refine blk_drew ?_))
          exact BR.out
        exact ⟨rfl, by repeat (with_reducible first | exact HB.out | apply pw_below_drewN | apply below_drew1 | refine below_set ?_ GO.out | refine below_set ?_ GR.out | refine below_set ?_ GK.out | refine below_set ?_ GP.out)⟩
      · have d1 : decide (a1_1 < 0) = false := decide_eq_false q1
        by_cases q2 : a1_2 < 0
        · rw [if_pos (.inr (.inr (.inr q2)))] at h
          simp only [Prod.mk.injEq] at h
          obtain ⟨rfl, rfl, rfl, rfl, rfl, rfl⟩ := h
          have d2 : decide (a1_2 < 0) = true := decide_eq_true q2
          clear cb q0 q1 q2
          go_wp2_with (first | ((with_reducible refine gate_dst (N := 10) rfl ?_); refine box_event ?hg (N := 10) ?hd (cs := #[.int .i64 0, .int .i64 0, .int .i64 0, .int .i64 0, .int .i64 0]) (t := 28) ?hr ?_; (case hd => rfl); (case hg => rfl); (case hr => first | (go_simp; done) | (go_simp; rfl)); intro gP hg w5 hbox hb; have n0_ := Aside0.mk (below_step (by refine below_set ?_ GK.out; refine below_set ?_ GK.out; refine below_set ?_ GK.out; exact HB.out) hb); have GP := Aside0.mk (show w.heap.size ≤ gP from by rw [hg]; exact below_size (by refine below_set ?_ GK.out; refine below_set ?_ GK.out; refine below_set ?_ GK.out; exact HB.out)); have eo_ := (show (((w4.setCell ⟨gK, 0, none⟩ (.int .i64 k0)).setCell ⟨gK, 1, none⟩ (.int .i64 k1)).setCell ⟨gK, 2, none⟩ (.int .i64 k2)).heap[gO]? = some (.cells #[.int .i64 a1_0, .int .i64 a1_1, .int .i64 a1_2] 23 (0, 0)) from by refine blk_far ?_ NOK _; refine blk_far ?_ NOK _; refine blk_far ?_ NOK _; exact BO.out); have er_ := (show (((w4.setCell ⟨gK, 0, none⟩ (.int .i64 k0)).setCell ⟨gK, 1, none⟩ (.int .i64 k1)).setCell ⟨gK, 2, none⟩ (.int .i64 k2)).heap[gR]? = some (.cells #[.int .i64 0, .int .i64 0, .int .i64 0, .int .i64 0, .int .i64 0] 28 (0, 0)) from by refine blk_far ?_ NRK _; refine blk_far ?_ NRK _; refine blk_far ?_ NRK _; exact BR.out); have NOP : gO ≠ gP := (by rw [hg]; exact Nat.ne_of_lt (blk_lt eo_)); have NPO := NOP.symm; have NRP : gR ≠ gP := (by rw [hg]; exact Nat.ne_of_lt (blk_lt er_)); have NPR := NRP.symm; have m1_ := Aside0.mk (blk_below eo_ hb); have m2_ := Aside0.mk (blk_below er_ hb); clear BO BR eo_ er_; have BO := m1_; have BR := m2_; clear m1_ m2_; have e_ := (show (((w4.setCell ⟨gK, 0, none⟩ (.int .i64 k0)).setCell ⟨gK, 1, none⟩ (.int .i64 k1)).setCell ⟨gK, 2, none⟩ (.int .i64 k2)).heap[gK]? = some (.cells #[.int .i64 k0, .int .i64 k1, .int .i64 k2] 24 (0, 0)) from by refine blk_put (cs := #[.int .i64 k0, .int .i64 k1, .int .i64 0]) ?_ 2 _ rfl; refine blk_put (cs := #[.int .i64 k0, .int .i64 0, .int .i64 0]) ?_ 1 _ rfl; refine blk_put (cs := #[.int .i64 0, .int .i64 0, .int .i64 0]) ?_ 0 _ rfl; exact BK.out); have NKP : gK ≠ gP := (by rw [hg]; exact Nat.ne_of_lt (blk_lt e_)); have NPK := NKP.symm; have n_ := Aside0.mk (blk_below e_ hb); clear BK e_; have BK := n_; clear n_; clear HB; have HB := n0_; clear n0_; have BP := Aside0.mk hbox; clear hbox hb hg; have Kc0 : w5.cell? ⟨gK, 0, none⟩ = some (.int .i64 k0) := (blk_cell BK.out 0).trans rfl; have Kf0 := blk_frozen BK.out 0; have Kc1 : w5.cell? ⟨gK, 1, none⟩ = some (.int .i64 k1) := (blk_cell BK.out 1).trans rfl; have Kf1 := blk_frozen BK.out 1; have Kc2 : w5.cell? ⟨gK, 2, none⟩ = some (.int .i64 k2) := (blk_cell BK.out 2).trans rfl; have Kf2 := blk_frozen BK.out 2))
          refine bodyPost_ret (results_ct rfl _ _ gR 28 #[.int .i64 0, .int .i64 0, .int .i64 0, .int .i64 0, .int .i64 0] (0, 0) _ rfl ?hz Tryd.underlying28 rfl (by kernel_rfl)) rfl ?_
          case hz =>
            (with_reducible repeat (first | refine blk_drewN ?_ _ | refine blk_drew ?_))
            refine blk_put (cs := #[.int .i64 0, .int .i64 0, .int .i64 0, .int .i64 0, .int .i64 0]) ?_ 4 _ (by rfl)
            (with_reducible repeat (first | refine blk_drewN ?_ _ | refine blk_drew ?_))
            refine blk_put (cs := #[.int .i64 0, .int .i64 0, .int .i64 0, .int .i64 0, .int .i64 0]) ?_ 3 _ (by rfl)
            (with_reducible repeat (first | refine blk_drewN ?_ _ | refine blk_drew ?_))
            refine blk_put (cs := #[.int .i64 0, .int .i64 0, .int .i64 0, .int .i64 0, .int .i64 0]) ?_ 2 _ (by rfl)
            (with_reducible repeat (first | refine blk_drewN ?_ _ | refine blk_drew ?_))
            refine blk_put (cs := #[.int .i64 0, .int .i64 0, .int .i64 0, .int .i64 0, .int .i64 0]) ?_ 1 _ (by rfl)
            (with_reducible repeat (first | refine blk_drewN ?_ _ | refine blk_drew ?_))
            refine blk_put (cs := #[.int .i64 0, .int .i64 0, .int .i64 0, .int .i64 0, .int .i64 0]) ?_ 0 _ (by rfl)
            (with_reducible repeat (first | refine blk_drewN ?_ _ | refine blk_drew ?_))
            refine blk_far ?_ NRK _
            (with_reducible repeat (first | refine blk_drewN ?_ _ | refine blk_drew ?_))
            refine blk_far ?_ NRK _
            (with_reducible repeat (first | refine blk_drewN ?_ _ | refine blk_drew ?_))
            refine blk_far ?_ NRK _
            (with_reducible repeat (first | refine blk_drewN ?_ _ | refine blk_drew ?_))
            exact BR.out
          exact ⟨rfl, by repeat (with_reducible first | exact HB.out | apply pw_below_drewN | apply below_drew1 | refine below_set ?_ GO.out | refine below_set ?_ GR.out | refine below_set ?_ GK.out | refine below_set ?_ GP.out)⟩
        · have d2 : decide (a1_2 < 0) = false := decide_eq_false q2
          rw [if_neg (by rintro (h | h | h | h); exact absurd h cb; exact q0 h; exact q1 h; exact q2 h)] at h
          by_cases q3 : a2 < 1
          · rw [if_pos q3] at h
            simp only [Prod.mk.injEq] at h
            obtain ⟨rfl, rfl, rfl, rfl, rfl, rfl⟩ := h
            have d3 : decide (a2 < 1) = true := decide_eq_true q3
            clear cb q0 q1 q2 q3
            go_wp2_with (first | ((with_reducible refine gate_dst (N := 10) rfl ?_); refine box_event ?hg (N := 10) ?hd (cs := #[.int .i64 0, .int .i64 0, .int .i64 0, .int .i64 0, .int .i64 0]) (t := 28) ?hr ?_; (case hd => rfl); (case hg => rfl); (case hr => first | (go_simp; done) | (go_simp; rfl)); intro gP hg w5 hbox hb; have n0_ := Aside0.mk (below_step (by refine below_set ?_ GK.out; refine below_set ?_ GK.out; refine below_set ?_ GK.out; exact HB.out) hb); have GP := Aside0.mk (show w.heap.size ≤ gP from by rw [hg]; exact below_size (by refine below_set ?_ GK.out; refine below_set ?_ GK.out; refine below_set ?_ GK.out; exact HB.out)); have eo_ := (show (((w4.setCell ⟨gK, 0, none⟩ (.int .i64 k0)).setCell ⟨gK, 1, none⟩ (.int .i64 k1)).setCell ⟨gK, 2, none⟩ (.int .i64 k2)).heap[gO]? = some (.cells #[.int .i64 a1_0, .int .i64 a1_1, .int .i64 a1_2] 23 (0, 0)) from by refine blk_far ?_ NOK _; refine blk_far ?_ NOK _; refine blk_far ?_ NOK _; exact BO.out); have er_ := (show (((w4.setCell ⟨gK, 0, none⟩ (.int .i64 k0)).setCell ⟨gK, 1, none⟩ (.int .i64 k1)).setCell ⟨gK, 2, none⟩ (.int .i64 k2)).heap[gR]? = some (.cells #[.int .i64 0, .int .i64 0, .int .i64 0, .int .i64 0, .int .i64 0] 28 (0, 0)) from by refine blk_far ?_ NRK _; refine blk_far ?_ NRK _; refine blk_far ?_ NRK _; exact BR.out); have NOP : gO ≠ gP := (by rw [hg]; exact Nat.ne_of_lt (blk_lt eo_)); have NPO := NOP.symm; have NRP : gR ≠ gP := (by rw [hg]; exact Nat.ne_of_lt (blk_lt er_)); have NPR := NRP.symm; have m1_ := Aside0.mk (blk_below eo_ hb); have m2_ := Aside0.mk (blk_below er_ hb); clear BO BR eo_ er_; have BO := m1_; have BR := m2_; clear m1_ m2_; have e_ := (show (((w4.setCell ⟨gK, 0, none⟩ (.int .i64 k0)).setCell ⟨gK, 1, none⟩ (.int .i64 k1)).setCell ⟨gK, 2, none⟩ (.int .i64 k2)).heap[gK]? = some (.cells #[.int .i64 k0, .int .i64 k1, .int .i64 k2] 24 (0, 0)) from by refine blk_put (cs := #[.int .i64 k0, .int .i64 k1, .int .i64 0]) ?_ 2 _ rfl; refine blk_put (cs := #[.int .i64 k0, .int .i64 0, .int .i64 0]) ?_ 1 _ rfl; refine blk_put (cs := #[.int .i64 0, .int .i64 0, .int .i64 0]) ?_ 0 _ rfl; exact BK.out); have NKP : gK ≠ gP := (by rw [hg]; exact Nat.ne_of_lt (blk_lt e_)); have NPK := NKP.symm; have n_ := Aside0.mk (blk_below e_ hb); clear BK e_; have BK := n_; clear n_; clear HB; have HB := n0_; clear n0_; have BP := Aside0.mk hbox; clear hbox hb hg; have Kc0 : w5.cell? ⟨gK, 0, none⟩ = some (.int .i64 k0) := (blk_cell BK.out 0).trans rfl; have Kf0 := blk_frozen BK.out 0; have Kc1 : w5.cell? ⟨gK, 1, none⟩ = some (.int .i64 k1) := (blk_cell BK.out 1).trans rfl; have Kf1 := blk_frozen BK.out 1; have Kc2 : w5.cell? ⟨gK, 2, none⟩ = some (.int .i64 k2) := (blk_cell BK.out 2).trans rfl; have Kf2 := blk_frozen BK.out 2))
            refine bodyPost_ret (results_ct rfl _ _ gR 28 #[.int .i64 0, .int .i64 0, .int .i64 0, .int .i64 0, .int .i64 0] (0, 0) _ rfl ?hz Tryd.underlying28 rfl (by kernel_rfl)) rfl ?_
            case hz =>
              (with_reducible repeat (first | refine blk_drewN ?_ _ | refine blk_drew ?_))
              refine blk_put (cs := #[.int .i64 0, .int .i64 0, .int .i64 0, .int .i64 0, .int .i64 0]) ?_ 4 _ (by rfl)
              (with_reducible repeat (first | refine blk_drewN ?_ _ | refine blk_drew ?_))
              refine blk_put (cs := #[.int .i64 0, .int .i64 0, .int .i64 0, .int .i64 0, .int .i64 0]) ?_ 3 _ (by rfl)
              (with_reducible repeat (first | refine blk_drewN ?_ _ | refine blk_drew ?_))
              refine blk_put (cs := #[.int .i64 0, .int .i64 0, .int .i64 0, .int .i64 0, .int .i64 0]) ?_ 2 _ (by rfl)
              (with_reducible repeat (first | refine blk_drewN ?_ _ | refine blk_drew ?_))
              refine blk_put (cs := #[.int .i64 0, .int .i64 0, .int .i64 0, .int .i64 0, .int .i64 0]) ?_ 1 _ (by rfl)
              (with_reducible repeat (first | refine blk_drewN ?_ _ | refine blk_drew ?_))
              refine blk_put (cs := #[.int .i64 0, .int .i64 0, .int .i64 0, .int .i64 0, .int .i64 0]) ?_ 0 _ (by rfl)
              (with_reducible repeat (first | refine blk_drewN ?_ _ | refine blk_drew ?_))
              refine blk_far ?_ NRK _
              (with_reducible repeat (first | refine blk_drewN ?_ _ | refine blk_drew ?_))
              refine blk_far ?_ NRK _
              (with_reducible repeat (first | refine blk_drewN ?_ _ | refine blk_drew ?_))
              refine blk_far ?_ NRK _
              (with_reducible repeat (first | refine blk_drewN ?_ _ | refine blk_drew ?_))
              exact BR.out
            exact ⟨rfl, by repeat (with_reducible first | exact HB.out | apply pw_below_drewN | apply below_drew1 | refine below_set ?_ GO.out | refine below_set ?_ GR.out | refine below_set ?_ GK.out | refine below_set ?_ GP.out)⟩
          · have d3 : decide (a2 < 1) = false := decide_eq_false q3
            rw [if_neg q3] at h
            have HH := Aside0.mk h
            clear h cb q0 q1 q2 q3
            go_wp2_with (first | ((with_reducible refine gate_dst (N := 10) rfl ?_); refine box_event ?hg (N := 10) ?hd (cs := #[.int .i64 0, .int .i64 0, .int .i64 0, .int .i64 0, .int .i64 0]) (t := 28) ?hr ?_; (case hd => rfl); (case hg => rfl); (case hr => first | (go_simp; done) | (go_simp; rfl)); intro gP hg w5 hbox hb; have n0_ := Aside0.mk (below_step (by refine below_set ?_ GK.out; refine below_set ?_ GK.out; refine below_set ?_ GK.out; exact HB.out) hb); have GP := Aside0.mk (show w.heap.size ≤ gP from by rw [hg]; exact below_size (by refine below_set ?_ GK.out; refine below_set ?_ GK.out; refine below_set ?_ GK.out; exact HB.out)); have eo_ := (show (((w4.setCell ⟨gK, 0, none⟩ (.int .i64 k0)).setCell ⟨gK, 1, none⟩ (.int .i64 k1)).setCell ⟨gK, 2, none⟩ (.int .i64 k2)).heap[gO]? = some (.cells #[.int .i64 a1_0, .int .i64 a1_1, .int .i64 a1_2] 23 (0, 0)) from by refine blk_far ?_ NOK _; refine blk_far ?_ NOK _; refine blk_far ?_ NOK _; exact BO.out); have er_ := (show (((w4.setCell ⟨gK, 0, none⟩ (.int .i64 k0)).setCell ⟨gK, 1, none⟩ (.int .i64 k1)).setCell ⟨gK, 2, none⟩ (.int .i64 k2)).heap[gR]? = some (.cells #[.int .i64 0, .int .i64 0, .int .i64 0, .int .i64 0, .int .i64 0] 28 (0, 0)) from by refine blk_far ?_ NRK _; refine blk_far ?_ NRK _; refine blk_far ?_ NRK _; exact BR.out); have NOP : gO ≠ gP := (by rw [hg]; exact Nat.ne_of_lt (blk_lt eo_)); have NPO := NOP.symm; have NRP : gR ≠ gP := (by rw [hg]; exact Nat.ne_of_lt (blk_lt er_)); have NPR := NRP.symm; have m1_ := Aside0.mk (blk_below eo_ hb); have m2_ := Aside0.mk (blk_below er_ hb); clear BO BR eo_ er_; have BO := m1_; have BR := m2_; clear m1_ m2_; have e_ := (show (((w4.setCell ⟨gK, 0, none⟩ (.int .i64 k0)).setCell ⟨gK, 1, none⟩ (.int .i64 k1)).setCell ⟨gK, 2, none⟩ (.int .i64 k2)).heap[gK]? = some (.cells #[.int .i64 k0, .int .i64 k1, .int .i64 k2] 24 (0, 0)) from by refine blk_put (cs := #[.int .i64 k0, .int .i64 k1, .int .i64 0]) ?_ 2 _ rfl; refine blk_put (cs := #[.int .i64 k0, .int .i64 0, .int .i64 0]) ?_ 1 _ rfl; refine blk_put (cs := #[.int .i64 0, .int .i64 0, .int .i64 0]) ?_ 0 _ rfl; exact BK.out); have NKP : gK ≠ gP := (by rw [hg]; exact Nat.ne_of_lt (blk_lt e_)); have NPK := NKP.symm; have n_ := Aside0.mk (blk_below e_ hb); clear BK e_; have BK := n_; clear n_; clear HB; have HB := n0_; clear n0_; have BP := Aside0.mk hbox; clear hbox hb hg; have Kc0 : w5.cell? ⟨gK, 0, none⟩ = some (.int .i64 k0) := (blk_cell BK.out 0).trans rfl; have Kf0 := blk_frozen BK.out 0; have Kc1 : w5.cell? ⟨gK, 1, none⟩ = some (.int .i64 k1) := (blk_cell BK.out 1).trans rfl; have Kf1 := blk_frozen BK.out 1; have Kc2 : w5.cell? ⟨gK, 2, none⟩ = some (.int .i64 k2) := (blk_cell BK.out 2).trans rfl; have Kf2 := blk_frozen BK.out 2))
            go_loopw [11, 44] (fun la i wr => ∃ n : Nat, n ≤ 3 ∧ i = .int .i64 n ∧ la = .int .i64 (waterfall_Allocate.st k0 k1 k2 a1_0 a1_1 a1_2 a2 n).2.2.2 ∧ Aside0 (wr.heap[gP]? = some (.cells (waterfall_Allocate.row (waterfall_Allocate.st k0 k1 k2 a1_0 a1_1 a1_2 a2 n)) 28 (0, 0))) ∧ Aside0 (wr.heap[gR]? = some (.cells #[.int .i64 0, .int .i64 0, .int .i64 0, .int .i64 0, .int .i64 0] 28 (0, 0))) ∧ Aside0 (wr.heap[gO]? = some (.cells #[.int .i64 a1_0, .int .i64 a1_1, .int .i64 a1_2] 23 (0, 0))) ∧ Aside0 (Below w.heap.size w wr)) (fun _ i _ => 3 - (intOf i).toNat)
            case atStart => exact ⟨0, by omega, rfl, rfl, BP, BR, BO, HB⟩
            case round =>
              clear BP BR BO BK HB Kc0 Kc1 Kc2 Kf0 Kf1 Kf2
              obtain ⟨n, hn, rfl, rfl, BP, BR, BO, HB⟩ := hrel
              by_cases hlt : n < 3
              · obtain ⟨⟨s1, s2, s3, s4⟩, hs⟩ : ∃ s, s = waterfall_Allocate.st k0 k1 k2 a1_0 a1_1 a1_2 a2 n := ⟨_, rfl⟩
                have hix := waterfall_Allocate.idx3 k0 k1 k2 n hlt
                obtain ⟨kn, hkn⟩ : ∃ z, z = (if n = 0 then k0 else if n = 1 then k1 else k2) := ⟨_, rfl⟩
                rw [← hkn] at hix
                have KN := Aside0.mk hkn
                clear hkn
                rw [← hs] at BP ⊢
                have HS := Aside0.mk hs
                clear hs
                have pc0 : wr.cell? ⟨gP, 0, none⟩ = some (.int .i64 s1) := (blk_cell BP.out 0).trans rfl
                have pc1 : wr.cell? ⟨gP, 1, none⟩ = some (.int .i64 s2) := (blk_cell BP.out 1).trans rfl
                have pc2 : wr.cell? ⟨gP, 2, none⟩ = some (.int .i64 s3) := (blk_cell BP.out 2).trans rfl
                have pf0 := blk_frozen BP.out 0
                have pf1 := blk_frozen BP.out 1
                have pf2 := blk_frozen BP.out 2
                have oc0 : wr.cell? ⟨gO, 0, none⟩ = some (.int .i64 a1_0) := (blk_cell BO.out 0).trans rfl
                have oc1 : wr.cell? ⟨gO, 1, none⟩ = some (.int .i64 a1_1) := (blk_cell BO.out 1).trans rfl
                have oc2 : wr.cell? ⟨gO, 2, none⟩ = some (.int .i64 a1_2) := (blk_cell BO.out 2).trans rfl
                by_cases v0 : kn = 3
                · have u0_ : (kn == 3) = true := beq_iff_eq.mpr v0
                  have hst : waterfall_Allocate.st k0 k1 k2 a1_0 a1_1 a1_2 a2 (n + 1) = (mn a1_0 s4, s2, s3, wrap64 (s4 - mn a1_0 s4)) := by
                    have h := HS.out
                    have hk := KN.out
                    rw [waterfall_Allocate.st, ← hk, ← h]; unfold waterfall_Allocate.step; rw [if_pos v0]
                  have HST := Aside0.mk hst
                  have HLT := Aside0.mk hlt
                  clear hst v0
                  go_wp2
                  go_roundw
                  case rel => exact ⟨n + 1, HLT.out, by go_num, by rw [HST.out]; rfl, ⟨by rw [HST.out]; refine blk_put (cs := waterfall_Allocate.row (s1, s2, s3, s4)) ?_ 0 _ (by rfl); (with_reducible repeat (first | refine blk_drewN ?_ _ | refine blk_drew ?_)); exact BP.out⟩, ⟨by refine blk_far ?_ NRP _; (with_reducible repeat (first | refine blk_drewN ?_ _ | refine blk_drew ?_)); exact BR.out⟩, ⟨by refine blk_far ?_ NOP _; (with_reducible repeat (first | refine blk_drewN ?_ _ | refine blk_drew ?_)); exact BO.out⟩, ⟨by repeat (with_reducible first | exact HB.out | apply pw_below_drewN | apply below_drew1 | refine below_set ?_ GO.out | refine below_set ?_ GR.out | refine below_set ?_ GK.out | refine below_set ?_ GP.out)⟩⟩
                  case measure => first | (simp [intOf]; done) | (simp [intOf]; omega)
                · have u0_ : (kn == 3) = false := beq_eq_false_iff_ne.mpr v0
                  by_cases v1 : kn = 2
                  · have u1_ : (kn == 2) = true := beq_iff_eq.mpr v1
                    have hst : waterfall_Allocate.st k0 k1 k2 a1_0 a1_1 a1_2 a2 (n + 1) = (s1, mn a1_1 s4, s3, wrap64 (s4 - mn a1_1 s4)) := by
                      have h := HS.out
                      have hk := KN.out
                      rw [waterfall_Allocate.st, ← hk, ← h]; unfold waterfall_Allocate.step; rw [if_neg v0, if_pos v1]
                    have HST := Aside0.mk hst
                    have HLT := Aside0.mk hlt
                    clear hst v0 v1
                    go_wp2
                    go_roundw
                    case rel => exact ⟨n + 1, HLT.out, by go_num, by rw [HST.out]; rfl, ⟨by rw [HST.out]; refine blk_put (cs := waterfall_Allocate.row (s1, s2, s3, s4)) ?_ 1 _ (by rfl); (with_reducible repeat (first | refine blk_drewN ?_ _ | refine blk_drew ?_)); exact BP.out⟩, ⟨by refine blk_far ?_ NRP _; (with_reducible repeat (first | refine blk_drewN ?_ _ | refine blk_drew ?_)); exact BR.out⟩, ⟨by refine blk_far ?_ NOP _; (with_reducible repeat (first | refine blk_drewN ?_ _ | refine blk_drew ?_)); exact BO.out⟩, ⟨by repeat (with_reducible first | exact HB.out | apply pw_below_drewN | apply below_drew1 | refine below_set ?_ GO.out | refine below_set ?_ GR.out | refine below_set ?_ GK.out | refine below_set ?_ GP.out)⟩⟩
                    case measure => first | (simp [intOf]; done) | (simp [intOf]; omega)
                  · have u1_ : (kn == 2) = false := beq_eq_false_iff_ne.mpr v1
                    have hst : waterfall_Allocate.st k0 k1 k2 a1_0 a1_1 a1_2 a2 (n + 1) = (s1, s2, mn a1_2 s4, wrap64 (s4 - mn a1_2 s4)) := by
                      have h := HS.out
                      have hk := KN.out
                      rw [waterfall_Allocate.st, ← hk, ← h]; unfold waterfall_Allocate.step; rw [if_neg v0, if_neg v1]
                    have HST := Aside0.mk hst
                    have HLT := Aside0.mk hlt
                    clear hst v0 v1
                    go_wp2
                    go_roundw
                    case rel => exact ⟨n + 1, HLT.out, by go_num, by rw [HST.out]; rfl, ⟨by rw [HST.out]; refine blk_put (cs := waterfall_Allocate.row (s1, s2, s3, s4)) ?_ 2 _ (by rfl); (with_reducible repeat (first | refine blk_drewN ?_ _ | refine blk_drew ?_)); exact BP.out⟩, ⟨by refine blk_far ?_ NRP _; (with_reducible repeat (first | refine blk_drewN ?_ _ | refine blk_drew ?_)); exact BR.out⟩, ⟨by refine blk_far ?_ NOP _; (with_reducible repeat (first | refine blk_drewN ?_ _ | refine blk_drew ?_)); exact BO.out⟩, ⟨by repeat (with_reducible first | exact HB.out | apply pw_below_drewN | apply below_drew1 | refine below_set ?_ GO.out | refine below_set ?_ GR.out | refine below_set ?_ GK.out | refine below_set ?_ GP.out)⟩⟩
                    case measure => first | (simp [intOf]; done) | (simp [intOf]; omega)
              have hn3 : n = 3 := by omega
              subst hn3
              clear hlt
              · obtain ⟨⟨s1, s2, s3, s4⟩, hs⟩ : ∃ s, s = waterfall_Allocate.st k0 k1 k2 a1_0 a1_1 a1_2 a2 3 := ⟨_, rfl⟩
                have h := HH.out
                rw [← hs] at BP h ⊢
                dsimp only at h ⊢
                simp only [Prod.mk.injEq] at h
                obtain ⟨rfl, rfl, rfl, rfl, rfl, rfl⟩ := h
                clear HH hs
                have pc0 : wr.cell? ⟨gP, 0, none⟩ = some (.int .i64 s1) := (blk_cell BP.out 0).trans rfl
                have pf0 := blk_frozen BP.out 0
                have pc1 : wr.cell? ⟨gP, 1, none⟩ = some (.int .i64 s2) := (blk_cell BP.out 1).trans rfl
                have pf1 := blk_frozen BP.out 1
                have pc2 : wr.cell? ⟨gP, 2, none⟩ = some (.int .i64 s3) := (blk_cell BP.out 2).trans rfl
                have pf2 := blk_frozen BP.out 2
                have pc3 : wr.cell? ⟨gP, 3, none⟩ = some (.int .i64 0) := (blk_cell BP.out 3).trans rfl
                have pf3 := blk_frozen BP.out 3
                have pc4 : wr.cell? ⟨gP, 4, none⟩ = some (.int .i64 0) := (blk_cell BP.out 4).trans rfl
                have pf4 := blk_frozen BP.out 4
                have rc0 : wr.cell? ⟨gR, 0, none⟩ = some (.int .i64 0) := (blk_cell BR.out 0).trans rfl
                have rf0 := blk_frozen BR.out 0
                have rc1 : wr.cell? ⟨gR, 1, none⟩ = some (.int .i64 0) := (blk_cell BR.out 1).trans rfl
                have rf1 := blk_frozen BR.out 1
                have rc2 : wr.cell? ⟨gR, 2, none⟩ = some (.int .i64 0) := (blk_cell BR.out 2).trans rfl
                have rf2 := blk_frozen BR.out 2
                have rc3 : wr.cell? ⟨gR, 3, none⟩ = some (.int .i64 0) := (blk_cell BR.out 3).trans rfl
                have rf3 := blk_frozen BR.out 3
                have rc4 : wr.cell? ⟨gR, 4, none⟩ = some (.int .i64 0) := (blk_cell BR.out 4).trans rfl
                have rf4 := blk_frozen BR.out 4
                go_wp2
                refine bodyPost_ret (results_ct rfl _ _ gR 28 #[.int .i64 s1, .int .i64 s2, .int .i64 s3, .int .i64 s4, .int .i64 0] (0, 0) _ rfl ?hz Tryd.underlying28 rfl (by kernel_rfl)) rfl ?_
                case hz =>
                  (with_reducible repeat (first | refine blk_drewN ?_ _ | refine blk_drew ?_))
                  refine blk_put (cs := #[.int .i64 s1, .int .i64 s2, .int .i64 s3, .int .i64 s4, .int .i64 0]) ?_ 4 _ (by rfl)
                  (with_reducible repeat (first | refine blk_drewN ?_ _ | refine blk_drew ?_))
                  refine blk_put (cs := #[.int .i64 s1, .int .i64 s2, .int .i64 s3, .int .i64 0, .int .i64 0]) ?_ 3 _ (by rfl)
                  (with_reducible repeat (first | refine blk_drewN ?_ _ | refine blk_drew ?_))
                  refine blk_put (cs := #[.int .i64 s1, .int .i64 s2, .int .i64 0, .int .i64 0, .int .i64 0]) ?_ 2 _ (by rfl)
                  (with_reducible repeat (first | refine blk_drewN ?_ _ | refine blk_drew ?_))
                  refine blk_put (cs := #[.int .i64 s1, .int .i64 0, .int .i64 0, .int .i64 0, .int .i64 0]) ?_ 1 _ (by rfl)
                  (with_reducible repeat (first | refine blk_drewN ?_ _ | refine blk_drew ?_))
                  refine blk_put (cs := #[.int .i64 0, .int .i64 0, .int .i64 0, .int .i64 0, .int .i64 0]) ?_ 0 _ (by rfl)
                  (with_reducible repeat (first | refine blk_drewN ?_ _ | refine blk_drew ?_))
                  refine blk_far ?_ NRP _
                  (with_reducible repeat (first | refine blk_drewN ?_ _ | refine blk_drew ?_))
                  exact BR.out
                exact ⟨rfl, by repeat (with_reducible first | exact HB.out | apply pw_below_drewN | apply below_drew1 | refine below_set ?_ GO.out | refine below_set ?_ GR.out | refine below_set ?_ GK.out | refine below_set ?_ GP.out)⟩

/-! ### arrearsref9_wants: function 24 -/
def arrearsref9_wants.f (a0_0 : Int) (a0_1 : Int) (a0_2 : Int) (a1 : Int) : Option (Int) := if a1 = 3 then (some a0_0) else (if a1 = 2 then (some a0_1) else (some a0_2))
set_option maxHeartbeats 8000000 in
set_option maxRecDepth 100000 in
theorem arrearsref9_wants.calls (a0_0 : Int) (a0_1 : Int) (a0_2 : Int) (a1 : Int) (r : Int) (w : World) (h : arrearsref9_wants.f a0_0 a0_1 a0_2 a1 = some r) :
    Calls Tryd.prog 24 #[.agg #[.int .i64 a0_0, .int .i64 a0_1, .int .i64 a0_2], .int .i64 a1] w fun e w' => e = .returned (.int .i64 r) ∧ Below w.heap.size w w' := by
  have hu23 := Tryd.underlying23
  have HB := Aside0.mk (Below.refl w.heap.size w)
  have H : (if a1 = 3 then (some a0_0) else (if a1 = 2 then (some a0_1) else (some a0_2))) = some r := h
  clear h
  by_cases c3 : a1 = 3
  · rw [if_pos c3] at H
    have c3b0 : (a1 == 3) = true := beq_iff_eq.mpr c3
    have c3b1 : (a1 != 3) = false := bne_eq_false_iff_eq.mpr c3
    clear c3
    obtain rfl := Option.some.inj H
    go_enter Tryd.func24, Tryd.ntmps24
    go_wp2_with (first | ((with_reducible refine gate_dst (N := 2) rfl ?_); refine box_event ?hg (N := 2) ?hd (cs := #[.int .i64 a0_0, .int .i64 a0_1, .int .i64 a0_2]) (t := 23) ?hr ?_; (case hd => rfl); (case hg => rfl); (case hr => first | (go_simp; done) | (go_simp; rfl)); intro gb101 hg w4 hbox hb; have n0_ := Aside0.mk (below_step (by repeat (first | (with_reducible first | exact HB.out | apply below_alloc | apply pw_below_drewN | apply below_drew1) | exact HB.out)) hb); have n1_ := Aside0.mk (hbox); have n2_ := Aside0.mk ((by rw [hg]; exact (below_size (by repeat (first | (with_reducible first | exact HB.out | apply below_alloc | apply pw_below_drewN | apply below_drew1) | exact HB.out))) : w.heap.size ≤ gb101)); have n3_ := Aside0.mk ((by rw [hg]; exact (below_size (by repeat (first | (with_reducible first | exact HB.out | apply below_alloc | apply pw_below_drewN | apply below_drew1) | exact HB.out))) : w.heap.size ≤ gb101)); clear HB; have HB := n0_; have BK101 := n1_; have GW101 := n2_; have GE101 := n3_; clear n0_ n1_ n2_ n3_; clear hb hbox hg; have hcz5_0 : w4.cell? ⟨gb101, 0, none⟩ = some (.int .i64 a0_0) := (blk_cell BK101.out 0).trans rfl; have hcz5_1 : w4.cell? ⟨gb101, 1, none⟩ = some (.int .i64 a0_1) := (blk_cell BK101.out 1).trans rfl; have hcz5_2 : w4.cell? ⟨gb101, 2, none⟩ = some (.int .i64 a0_2) := (blk_cell BK101.out 2).trans rfl; have hfz5_0 := blk_frozen BK101.out 0; have hfz5_1 := blk_frozen BK101.out 1; have hfz5_2 := blk_frozen BK101.out 2))
    go_ret
    exact ⟨by first | rfl | (simp [errW_none, errW_some] <;> rfl) | (simp [*, errW_none, errW_some] <;> rfl), by repeat (first | (with_reducible first | exact HB.out | apply below_alloc | apply pw_below_drewN | apply below_drew1 | refine below_set ?_ GE101.out) | exact HB.out)⟩
  · rw [if_neg c3] at H
    have c3b0 : (a1 == 3) = false := beq_eq_false_iff_ne.mpr c3
    have c3b1 : (a1 != 3) = true := bne_iff_ne.mpr c3
    by_cases c6 : a1 = 2
    · rw [if_pos c6] at H
      have c6b0 : (a1 == 2) = true := beq_iff_eq.mpr c6
      have c6b1 : (a1 != 2) = false := bne_eq_false_iff_eq.mpr c6
      clear c6
      obtain rfl := Option.some.inj H
      go_enter Tryd.func24, Tryd.ntmps24
      go_wp2_with (first | ((with_reducible refine gate_dst (N := 2) rfl ?_); refine box_event ?hg (N := 2) ?hd (cs := #[.int .i64 a0_0, .int .i64 a0_1, .int .i64 a0_2]) (t := 23) ?hr ?_; (case hd => rfl); (case hg => rfl); (case hr => first | (go_simp; done) | (go_simp; rfl)); intro gb101 hg w7 hbox hb; have n0_ := Aside0.mk (below_step (by repeat (first | (with_reducible first | exact HB.out | apply below_alloc | apply pw_below_drewN | apply below_drew1) | exact HB.out)) hb); have n1_ := Aside0.mk (hbox); have n2_ := Aside0.mk ((by rw [hg]; exact (below_size (by repeat (first | (with_reducible first | exact HB.out | apply below_alloc | apply pw_below_drewN | apply below_drew1) | exact HB.out))) : w.heap.size ≤ gb101)); have n3_ := Aside0.mk ((by rw [hg]; exact (below_size (by repeat (first | (with_reducible first | exact HB.out | apply below_alloc | apply pw_below_drewN | apply below_drew1) | exact HB.out))) : w.heap.size ≤ gb101)); clear HB; have HB := n0_; have BK101 := n1_; have GW101 := n2_; have GE101 := n3_; clear n0_ n1_ n2_ n3_; clear hb hbox hg; have hcz8_0 : w7.cell? ⟨gb101, 0, none⟩ = some (.int .i64 a0_0) := (blk_cell BK101.out 0).trans rfl; have hcz8_1 : w7.cell? ⟨gb101, 1, none⟩ = some (.int .i64 a0_1) := (blk_cell BK101.out 1).trans rfl; have hcz8_2 : w7.cell? ⟨gb101, 2, none⟩ = some (.int .i64 a0_2) := (blk_cell BK101.out 2).trans rfl; have hfz8_0 := blk_frozen BK101.out 0; have hfz8_1 := blk_frozen BK101.out 1; have hfz8_2 := blk_frozen BK101.out 2))
      go_ret
      exact ⟨by first | rfl | (simp [errW_none, errW_some] <;> rfl) | (simp [*, errW_none, errW_some] <;> rfl), by repeat (first | (with_reducible first | exact HB.out | apply below_alloc | apply pw_below_drewN | apply below_drew1 | refine below_set ?_ GE101.out) | exact HB.out)⟩
    · rw [if_neg c6] at H
      have c6b0 : (a1 == 2) = false := beq_eq_false_iff_ne.mpr c6
      have c6b1 : (a1 != 2) = true := bne_iff_ne.mpr c6
      obtain rfl := Option.some.inj H
      go_enter Tryd.func24, Tryd.ntmps24
      go_wp2_with (first | ((with_reducible refine gate_dst (N := 2) rfl ?_); refine box_event ?hg (N := 2) ?hd (cs := #[.int .i64 a0_0, .int .i64 a0_1, .int .i64 a0_2]) (t := 23) ?hr ?_; (case hd => rfl); (case hg => rfl); (case hr => first | (go_simp; done) | (go_simp; rfl)); intro gb101 hg w9 hbox hb; have n0_ := Aside0.mk (below_step (by repeat (first | (with_reducible first | exact HB.out | apply below_alloc | apply pw_below_drewN | apply below_drew1) | exact HB.out)) hb); have n1_ := Aside0.mk (hbox); have n2_ := Aside0.mk ((by rw [hg]; exact (below_size (by repeat (first | (with_reducible first | exact HB.out | apply below_alloc | apply pw_below_drewN | apply below_drew1) | exact HB.out))) : w.heap.size ≤ gb101)); have n3_ := Aside0.mk ((by rw [hg]; exact (below_size (by repeat (first | (with_reducible first | exact HB.out | apply below_alloc | apply pw_below_drewN | apply below_drew1) | exact HB.out))) : w.heap.size ≤ gb101)); clear HB; have HB := n0_; have BK101 := n1_; have GW101 := n2_; have GE101 := n3_; clear n0_ n1_ n2_ n3_; clear hb hbox hg; have hcz10_0 : w9.cell? ⟨gb101, 0, none⟩ = some (.int .i64 a0_0) := (blk_cell BK101.out 0).trans rfl; have hcz10_1 : w9.cell? ⟨gb101, 1, none⟩ = some (.int .i64 a0_1) := (blk_cell BK101.out 1).trans rfl; have hcz10_2 : w9.cell? ⟨gb101, 2, none⟩ = some (.int .i64 a0_2) := (blk_cell BK101.out 2).trans rfl; have hfz10_0 := blk_frozen BK101.out 0; have hfz10_1 := blk_frozen BK101.out 1; have hfz10_2 := blk_frozen BK101.out 2))
      go_ret
      exact ⟨by first | rfl | (simp [errW_none, errW_some] <;> rfl) | (simp [*, errW_none, errW_some] <;> rfl), by repeat (first | (with_reducible first | exact HB.out | apply below_alloc | apply pw_below_drewN | apply below_drew1 | refine below_set ?_ GE101.out) | exact HB.out)⟩

end Go.Proofs.YtleeifpdgnjbdaaDoor.G
