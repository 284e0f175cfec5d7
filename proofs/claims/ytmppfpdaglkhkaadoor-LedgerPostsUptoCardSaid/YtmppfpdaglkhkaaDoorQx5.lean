-- Written by stubprint.py (wip/) of this work, over the kit's print.py; parts by hand.
import Derived.Test.YtmppfpdaglkhkaaDoorQx0
import Derived.Test.YtmppfpdaglkhkaaDoorQx3
import Derived.Test.YtmppfpdaglkhkaaDoorQx4
namespace Go.Proofs.YtmppfpdaglkhkaaDoor.Q
open Go.RowKit Go.Proofs.YtmppfpdaglkhkaaDoorW.PrintWords Go.Proofs.YtmppfpdaglkhkaaDoorW.PrintLast Go.Proofs.YtmppfpdaglkhkaaDoorW.PrintMore
attribute [local go_sem] max2_int min2_int max_two min_two max_three min_three max_four min_four   -- for this text's walks alone
set_option linter.unusedVariables false
set_option linter.unusedSimpArgs false

/-! ### arrearsref8_Post: function 18 -/
mutual
def arrearsref8_Post.l0 : Nat → List (S43) → Int → Int → Int → Int → Int → Int → Int → Int → Int → Int → Int → Int → Int → Option (Int × Int × Int × Int × Int × Int × Int × Int × Int × Int × Int × Int × Int)
  | 0, _, _, _, _, _, _, _, _, _, _, _, _, _, _ => none
  | k + 1, x1, x6, x151000, x151001, x151002, x151003, x151004, x151005, x151006, x151007, x151008, x151009, x151010, x151011 => if x6 < (x1.length : Int) then (if 0 ≤ x6 then ((arrearsref8_refused.f k ((rd_T43 x1 x6).f0) ((rd_T43 x1 x6).f1) ((rd_T43 x1 x6).f2)).bind fun t153 => (if t153 = 0 then (arrearsref8_Post.l0 k x1 (wrap64 (x6 + 1)) x151000 x151001 x151002 x151003 x151004 x151005 x151006 x151007 x151008 x151009 x151010 x151011) else (some (x151000, x151001, x151002, x151003, x151004, x151005, x151006, x151007, x151008, x151009, x151010, x151011, t153)))) else (none)) else (arrearsref8_Post.l1 k x1 0 x151000 x151001 x151002 x151003 x151004 x151005 x151006 x151007 x151008 x151009 x151010 x151011 0 0 0 0 0 0 0 0 0 0 0 0)
def arrearsref8_Post.l1 : Nat → List (S43) → Int → Int → Int → Int → Int → Int → Int → Int → Int → Int → Int → Int → Int → Int → Int → Int → Int → Int → Int → Int → Int → Int → Int → Int → Int → Option (Int × Int × Int × Int × Int × Int × Int × Int × Int × Int × Int × Int × Int)
  | 0, _, _, _, _, _, _, _, _, _, _, _, _, _, _, _, _, _, _, _, _, _, _, _, _, _, _ => none
  | k + 1, x1, x9, x151000, x151001, x151002, x151003, x151004, x151005, x151006, x151007, x151008, x151009, x151010, x151011, x155000, x155001, x155002, x155003, x155004, x155005, x155006, x155007, x155008, x155009, x155010, x155011 => if x9 < 12 then ((arrearsref8_moves.f k x151000 x151001 x151002 x151003 x151004 x151005 x151006 x151007 x151008 x151009 x151010 x151011 x1 x9).bind fun t155 => ((arrearsref1_Sum.f k t155).bind fun bt158 => (if bt158.2 = true then (if bt158.1 = (-9223372036854775808) then (some (x151000, x151001, x151002, x151003, x151004, x151005, x151006, x151007, x151008, x151009, x151010, x151011, 3)) else (if 0 ≤ x9 then (arrearsref8_Post.l1 k x1 (wrap64 (x9 + 1)) x151000 x151001 x151002 x151003 x151004 x151005 x151006 x151007 x151008 x151009 x151010 x151011 (putI x9 0 bt158.1 x155000) (putI x9 1 bt158.1 x155001) (putI x9 2 bt158.1 x155002) (putI x9 3 bt158.1 x155003) (putI x9 4 bt158.1 x155004) (putI x9 5 bt158.1 x155005) (putI x9 6 bt158.1 x155006) (putI x9 7 bt158.1 x155007) (putI x9 8 bt158.1 x155008) (putI x9 9 bt158.1 x155009) (putI x9 10 bt158.1 x155010) (putI x9 11 bt158.1 x155011)) else (none))) else (some (x151000, x151001, x151002, x151003, x151004, x151005, x151006, x151007, x151008, x151009, x151010, x151011, 3))))) else (arrearsref8_Post.l2 k 0 x151000 x151001 x151002 x151003 x151004 x151005 x151006 x151007 x151008 x151009 x151010 x151011 x155000 x155001 x155002 x155003 x155004 x155005 x155006 x155007 x155008 x155009 x155010 x155011)
def arrearsref8_Post.l2 : Nat → Int → Int → Int → Int → Int → Int → Int → Int → Int → Int → Int → Int → Int → Int → Int → Int → Int → Int → Int → Int → Int → Int → Int → Int → Int → Option (Int × Int × Int × Int × Int × Int × Int × Int × Int × Int × Int × Int × Int)
  | 0, _, _, _, _, _, _, _, _, _, _, _, _, _, _, _, _, _, _, _, _, _, _, _, _, _ => none
  | k + 1, x12, x151000, x151001, x151002, x151003, x151004, x151005, x151006, x151007, x151008, x151009, x151010, x151011, x155000, x155001, x155002, x155003, x155004, x155005, x155006, x155007, x155008, x155009, x155010, x155011 => if x12 < 12 then (if 0 ≤ x12 then ((arrearsref8_OwnSide.f x12 (selI [x155000, x155001, x155002, x155003, x155004, x155005, x155006, x155007, x155008, x155009, x155010, x155011] x12)).bind fun t162 => (if t162 = true then (arrearsref8_Post.l2 k (wrap64 (x12 + 1)) x151000 x151001 x151002 x151003 x151004 x151005 x151006 x151007 x151008 x151009 x151010 x151011 x155000 x155001 x155002 x155003 x155004 x155005 x155006 x155007 x155008 x155009 x155010 x155011) else (some (x151000, x151001, x151002, x151003, x151004, x151005, x151006, x151007, x151008, x151009, x151010, x151011, 81)))) else (none)) else (some (x155000, x155001, x155002, x155003, x155004, x155005, x155006, x155007, x155008, x155009, x155010, x155011, 0))
end
def arrearsref8_Post.f (k : Nat) (a0_0 : Int) (a0_1 : Int) (a0_2 : Int) (a0_3 : Int) (a0_4 : Int) (a0_5 : Int) (a0_6 : Int) (a0_7 : Int) (a0_8 : Int) (a0_9 : Int) (a0_10 : Int) (a0_11 : Int) (l1 : List (S43)) : Option (Int × Int × Int × Int × Int × Int × Int × Int × Int × Int × Int × Int × Int) := arrearsref8_Post.l0 k l1 0 a0_0 a0_1 a0_2 a0_3 a0_4 a0_5 a0_6 a0_7 a0_8 a0_9 a0_10 a0_11
theorem arrearsref8_Post.mono_l : ∀ k, (∀ y0 y1 y2 y3 y4 y5 y6 y7 y8 y9 y10 y11 y12 y13, LeO (arrearsref8_Post.l0 k y0 y1 y2 y3 y4 y5 y6 y7 y8 y9 y10 y11 y12 y13) (arrearsref8_Post.l0 (k + 1) y0 y1 y2 y3 y4 y5 y6 y7 y8 y9 y10 y11 y12 y13)) ∧ (∀ y0 y1 y2 y3 y4 y5 y6 y7 y8 y9 y10 y11 y12 y13 y14 y15 y16 y17 y18 y19 y20 y21 y22 y23 y24 y25, LeO (arrearsref8_Post.l1 k y0 y1 y2 y3 y4 y5 y6 y7 y8 y9 y10 y11 y12 y13 y14 y15 y16 y17 y18 y19 y20 y21 y22 y23 y24 y25) (arrearsref8_Post.l1 (k + 1) y0 y1 y2 y3 y4 y5 y6 y7 y8 y9 y10 y11 y12 y13 y14 y15 y16 y17 y18 y19 y20 y21 y22 y23 y24 y25)) ∧ (∀ y0 y1 y2 y3 y4 y5 y6 y7 y8 y9 y10 y11 y12 y13 y14 y15 y16 y17 y18 y19 y20 y21 y22 y23 y24, LeO (arrearsref8_Post.l2 k y0 y1 y2 y3 y4 y5 y6 y7 y8 y9 y10 y11 y12 y13 y14 y15 y16 y17 y18 y19 y20 y21 y22 y23 y24) (arrearsref8_Post.l2 (k + 1) y0 y1 y2 y3 y4 y5 y6 y7 y8 y9 y10 y11 y12 y13 y14 y15 y16 y17 y18 y19 y20 y21 y22 y23 y24))
  | 0 => ⟨fun _ _ _ _ _ _ _ _ _ _ _ _ _ _ r h => by simp [arrearsref8_Post.l0] at h, fun _ _ _ _ _ _ _ _ _ _ _ _ _ _ _ _ _ _ _ _ _ _ _ _ _ _ r h => by simp [arrearsref8_Post.l1] at h, fun _ _ _ _ _ _ _ _ _ _ _ _ _ _ _ _ _ _ _ _ _ _ _ _ _ r h => by simp [arrearsref8_Post.l2] at h⟩
  | k + 1 => by
    obtain ⟨ih0, ih1, ih2⟩ := arrearsref8_Post.mono_l k
    refine ⟨?_, ?_, ?_⟩
    · intro y0 y1 y2 y3 y4 y5 y6 y7 y8 y9 y10 y11 y12 y13
      unfold arrearsref8_Post.l0
      repeat' first
      | (with_reducible exact ih0 _ _ _ _ _ _ _ _ _ _ _ _ _ _)
      | (with_reducible exact ih1 _ _ _ _ _ _ _ _ _ _ _ _ _ _ _ _ _ _ _ _ _ _ _ _ _ _)
      | (with_reducible exact ih2 _ _ _ _ _ _ _ _ _ _ _ _ _ _ _ _ _ _ _ _ _ _ _ _ _)
      | (with_reducible exact arrearsref1_Sum.mono _ _)
      | (with_reducible exact arrearsref8_moves.mono _ _ _ _ _ _ _ _ _ _ _ _ _ _ _)
      | (with_reducible exact arrearsref8_refused.mono _ _ _ _)
      | (with_reducible exact LeO.refl _)
      | (with_reducible exact LeO.none _)
      | (with_reducible refine LeO.ite ?_ ?_)
      | (with_reducible refine LeO.bind ?_ (fun _ => ?_))
      | exact ih0 _ _ _ _ _ _ _ _ _ _ _ _ _ _
      | exact ih1 _ _ _ _ _ _ _ _ _ _ _ _ _ _ _ _ _ _ _ _ _ _ _ _ _ _
      | exact ih2 _ _ _ _ _ _ _ _ _ _ _ _ _ _ _ _ _ _ _ _ _ _ _ _ _
      | exact arrearsref1_Sum.mono _ _
      | exact arrearsref8_moves.mono _ _ _ _ _ _ _ _ _ _ _ _ _ _ _
      | exact arrearsref8_refused.mono _ _ _ _
      | exact LeO.none _
      | refine LeO.ite ?_ ?_
      | refine LeO.bind ?_ (fun _ => ?_)
    · intro y0 y1 y2 y3 y4 y5 y6 y7 y8 y9 y10 y11 y12 y13 y14 y15 y16 y17 y18 y19 y20 y21 y22 y23 y24 y25
      unfold arrearsref8_Post.l1
      repeat' first
      | (with_reducible exact ih0 _ _ _ _ _ _ _ _ _ _ _ _ _ _)
      | (with_reducible exact ih1 _ _ _ _ _ _ _ _ _ _ _ _ _ _ _ _ _ _ _ _ _ _ _ _ _ _)
      | (with_reducible exact ih2 _ _ _ _ _ _ _ _ _ _ _ _ _ _ _ _ _ _ _ _ _ _ _ _ _)
      | (with_reducible exact arrearsref1_Sum.mono _ _)
      | (with_reducible exact arrearsref8_moves.mono _ _ _ _ _ _ _ _ _ _ _ _ _ _ _)
      | (with_reducible exact arrearsref8_refused.mono _ _ _ _)
      | (with_reducible exact LeO.refl _)
      | (with_reducible exact LeO.none _)
      | (with_reducible refine LeO.ite ?_ ?_)
      | (with_reducible refine LeO.bind ?_ (fun _ => ?_))
      | exact ih0 _ _ _ _ _ _ _ _ _ _ _ _ _ _
      | exact ih1 _ _ _ _ _ _ _ _ _ _ _ _ _ _ _ _ _ _ _ _ _ _ _ _ _ _
      | exact ih2 _ _ _ _ _ _ _ _ _ _ _ _ _ _ _ _ _ _ _ _ _ _ _ _ _
      | exact arrearsref1_Sum.mono _ _
      | exact arrearsref8_moves.mono _ _ _ _ _ _ _ _ _ _ _ _ _ _ _
      | exact arrearsref8_refused.mono _ _ _ _
      | exact LeO.none _
      | refine LeO.ite ?_ ?_
      | refine LeO.bind ?_ (fun _ => ?_)
    · intro y0 y1 y2 y3 y4 y5 y6 y7 y8 y9 y10 y11 y12 y13 y14 y15 y16 y17 y18 y19 y20 y21 y22 y23 y24
      unfold arrearsref8_Post.l2
      repeat' first
      | (with_reducible exact ih0 _ _ _ _ _ _ _ _ _ _ _ _ _ _)
      | (with_reducible exact ih1 _ _ _ _ _ _ _ _ _ _ _ _ _ _ _ _ _ _ _ _ _ _ _ _ _ _)
      | (with_reducible exact ih2 _ _ _ _ _ _ _ _ _ _ _ _ _ _ _ _ _ _ _ _ _ _ _ _ _)
      | (with_reducible exact arrearsref1_Sum.mono _ _)
      | (with_reducible exact arrearsref8_moves.mono _ _ _ _ _ _ _ _ _ _ _ _ _ _ _)
      | (with_reducible exact arrearsref8_refused.mono _ _ _ _)
      | (with_reducible exact LeO.refl _)
      | (with_reducible exact LeO.none _)
      | (with_reducible refine LeO.ite ?_ ?_)
      | (with_reducible refine LeO.bind ?_ (fun _ => ?_))
      | exact ih0 _ _ _ _ _ _ _ _ _ _ _ _ _ _
      | exact ih1 _ _ _ _ _ _ _ _ _ _ _ _ _ _ _ _ _ _ _ _ _ _ _ _ _ _
      | exact ih2 _ _ _ _ _ _ _ _ _ _ _ _ _ _ _ _ _ _ _ _ _ _ _ _ _
      | exact arrearsref1_Sum.mono _ _
      | exact arrearsref8_moves.mono _ _ _ _ _ _ _ _ _ _ _ _ _ _ _
      | exact arrearsref8_refused.mono _ _ _ _
      | exact LeO.none _
      | refine LeO.ite ?_ ?_
      | refine LeO.bind ?_ (fun _ => ?_)
theorem arrearsref8_Post.mono : ∀ a0 a1 a2 a3 a4 a5 a6 a7 a8 a9 a10 a11 a12 k, LeO (arrearsref8_Post.f k a0 a1 a2 a3 a4 a5 a6 a7 a8 a9 a10 a11 a12) (arrearsref8_Post.f (k + 1) a0 a1 a2 a3 a4 a5 a6 a7 a8 a9 a10 a11 a12) := by
  intro a0 a1 a2 a3 a4 a5 a6 a7 a8 a9 a10 a11 a12 k
  obtain ⟨ih0, ih1, ih2⟩ := arrearsref8_Post.mono_l k
  unfold arrearsref8_Post.f
  repeat' first
      | (with_reducible exact ih0 _ _ _ _ _ _ _ _ _ _ _ _ _ _)
      | (with_reducible exact ih1 _ _ _ _ _ _ _ _ _ _ _ _ _ _ _ _ _ _ _ _ _ _ _ _ _ _)
      | (with_reducible exact ih2 _ _ _ _ _ _ _ _ _ _ _ _ _ _ _ _ _ _ _ _ _ _ _ _ _)
      | (with_reducible exact arrearsref1_Sum.mono _ _)
      | (with_reducible exact arrearsref8_moves.mono _ _ _ _ _ _ _ _ _ _ _ _ _ _ _)
      | (with_reducible exact arrearsref8_refused.mono _ _ _ _)
      | (with_reducible exact LeO.refl _)
      | (with_reducible exact LeO.none _)
      | (with_reducible refine LeO.ite ?_ ?_)
      | (with_reducible refine LeO.bind ?_ (fun _ => ?_))
      | exact ih0 _ _ _ _ _ _ _ _ _ _ _ _ _ _
      | exact ih1 _ _ _ _ _ _ _ _ _ _ _ _ _ _ _ _ _ _ _ _ _ _ _ _ _ _
      | exact ih2 _ _ _ _ _ _ _ _ _ _ _ _ _ _ _ _ _ _ _ _ _ _ _ _ _
      | exact arrearsref1_Sum.mono _ _
      | exact arrearsref8_moves.mono _ _ _ _ _ _ _ _ _ _ _ _ _ _ _
      | exact arrearsref8_refused.mono _ _ _ _
      | exact LeO.none _
      | refine LeO.ite ?_ ?_
      | refine LeO.bind ?_ (fun _ => ?_)
set_option maxHeartbeats 8000000 in
set_option maxRecDepth 100000 in
theorem arrearsref8_Post.calls (k : Nat) (a0_0 : Int) (a0_1 : Int) (a0_2 : Int) (a0_3 : Int) (a0_4 : Int) (a0_5 : Int) (a0_6 : Int) (a0_7 : Int) (a0_8 : Int) (a0_9 : Int) (a0_10 : Int) (a0_11 : Int) (A1 : Option Addr) (c1 : Nat) (l1 : List (S43)) (r1 : Int) (r2 : Int) (r3 : Int) (r4 : Int) (r5 : Int) (r6 : Int) (r7 : Int) (r8 : Int) (r9 : Int) (r10 : Int) (r11 : Int) (r12 : Int) (r13 : Int) (w : World) (hr1 : Kd.C k43 w A1 l1.length l1) (hc1 : l1.length ≤ c1) (h : arrearsref8_Post.f k a0_0 a0_1 a0_2 a0_3 a0_4 a0_5 a0_6 a0_7 a0_8 a0_9 a0_10 a0_11 l1 = some (r1, r2, r3, r4, r5, r6, r7, r8, r9, r10, r11, r12, r13)) :
    Calls Tryd.prog 18 #[.agg #[.int .i64 a0_0, .int .i64 a0_1, .int .i64 a0_2, .int .i64 a0_3, .int .i64 a0_4, .int .i64 a0_5, .int .i64 a0_6, .int .i64 a0_7, .int .i64 a0_8, .int .i64 a0_9, .int .i64 a0_10, .int .i64 a0_11], .slice A1 l1.length c1] w fun e w' => e = .returned (.tuple #[.agg #[.int .i64 r1, .int .i64 r2, .int .i64 r3, .int .i64 r4, .int .i64 r5, .int .i64 r6, .int .i64 r7, .int .i64 r8, .int .i64 r9, .int .i64 r10, .int .i64 r11, .int .i64 r12], .int .i64 r13]) ∧ Below w.heap.size w w' := by
  have hu24 := Tryd.underlying24
  have hu43 := Tryd.underlying43
  have HR1 := Aside0.mk hr1
  have HC1 := Aside0.mk hc1
  clear hr1 hc1
  have HB := Aside0.mk (Below.refl w.heap.size w)
  have H : (arrearsref8_Post.l0 k l1 0 a0_0 a0_1 a0_2 a0_3 a0_4 a0_5 a0_6 a0_7 a0_8 a0_9 a0_10 a0_11) = some (r1, r2, r3, r4, r5, r6, r7, r8, r9, r10, r11, r12, r13) := h
  clear h
  have H' := Aside0.mk H
  clear H
  go_enter Tryd.func18, Tryd.ntmps18
  go_wp2_with (first | ((with_reducible refine gate_dst (N := 2) rfl ?_); refine box_event ?hg (N := 2) ?hd (cs := #[.int .i64 a0_0, .int .i64 a0_1, .int .i64 a0_2, .int .i64 a0_3, .int .i64 a0_4, .int .i64 a0_5, .int .i64 a0_6, .int .i64 a0_7, .int .i64 a0_8, .int .i64 a0_9, .int .i64 a0_10, .int .i64 a0_11]) (t := 24) ?hr ?_; (case hd => rfl); (case hg => rfl); (case hr => first | (go_simp; done) | (go_simp; rfl)); intro gb150 hg w3 hbox hb; have n0_ := Aside0.mk (below_step (by repeat (first | (with_reducible first | exact HB.out | apply below_alloc | apply pw_below_drewN | apply below_drew1) | exact HB.out)) hb); have n1_ := Aside0.mk (hbox); have n2_ := Aside0.mk ((by rw [hg]; exact (below_size (by repeat (first | (with_reducible first | exact HB.out | apply below_alloc | apply pw_below_drewN | apply below_drew1) | exact HB.out))) : w.heap.size ≤ gb150)); have n3_ := Aside0.mk ((by rw [hg]; exact (below_size (by repeat (first | (with_reducible first | exact HB.out | apply below_alloc | apply pw_below_drewN | apply below_drew1) | exact HB.out))) : w.heap.size ≤ gb150)); clear HB; have HB := n0_; have BK150 := n1_; have GW150 := n2_; have GE150 := n3_; clear n0_ n1_ n2_ n3_; clear hb hbox hg) | ((with_reducible refine gate_dst (N := 4) rfl ?_); refine box_event ?hg (N := 4) ?hd (cs := #[.int .i64 0, .int .i64 0, .int .i64 0, .int .i64 0, .int .i64 0, .int .i64 0, .int .i64 0, .int .i64 0, .int .i64 0, .int .i64 0, .int .i64 0, .int .i64 0]) (t := 24) ?hr ?_; (case hd => rfl); (case hg => rfl); (case hr => first | (go_simp; done) | (go_simp; rfl)); intro gb151 hg w4 hbox hb; have n0_ := Aside0.mk (blk_below (g := gb150) (o := .cells #[.int .i64 a0_0, .int .i64 a0_1, .int .i64 a0_2, .int .i64 a0_3, .int .i64 a0_4, .int .i64 a0_5, .int .i64 a0_6, .int .i64 a0_7, .int .i64 a0_8, .int .i64 a0_9, .int .i64 a0_10, .int .i64 a0_11] 24 (0, 0)) (by (with_reducible repeat (first | refine blk_drewN ?_ _ | refine blk_drew ?_ | refine blk_alloc ?_ _)); exact BK150.out) hb); have n1_ := Aside0.mk (below_step (by repeat (first | (with_reducible first | exact HB.out | apply below_alloc | apply pw_below_drewN | apply below_drew1 | refine below_set ?_ GE150.out) | exact HB.out)) hb); have n2_ := Aside0.mk (hbox); have n3_ := Aside0.mk ((by rw [hg]; exact (below_size (by repeat (first | (with_reducible first | exact HB.out | apply below_alloc | apply pw_below_drewN | apply below_drew1 | refine below_set ?_ GE150.out) | exact HB.out))) : w.heap.size ≤ gb151)); have n4_ := Aside0.mk ((by rw [hg]; exact (below_size (by repeat (first | (with_reducible first | exact HB.out | apply below_alloc | apply pw_below_drewN | apply below_drew1 | refine below_set ?_ GE150.out) | exact HB.out))) : w.heap.size ≤ gb151)); have n5_ := Aside0.mk ((by rw [hg]; exact Nat.ne_of_lt (blk_lt (g := gb150) (o := .cells #[.int .i64 a0_0, .int .i64 a0_1, .int .i64 a0_2, .int .i64 a0_3, .int .i64 a0_4, .int .i64 a0_5, .int .i64 a0_6, .int .i64 a0_7, .int .i64 a0_8, .int .i64 a0_9, .int .i64 a0_10, .int .i64 a0_11] 24 (0, 0)) (by (with_reducible repeat (first | refine blk_drewN ?_ _ | refine blk_drew ?_ | refine blk_alloc ?_ _)); exact BK150.out)) : gb150 ≠ gb151)); have n6_ := Aside0.mk ((by rw [hg]; exact Nat.ne_of_gt (blk_lt (g := gb150) (o := .cells #[.int .i64 a0_0, .int .i64 a0_1, .int .i64 a0_2, .int .i64 a0_3, .int .i64 a0_4, .int .i64 a0_5, .int .i64 a0_6, .int .i64 a0_7, .int .i64 a0_8, .int .i64 a0_9, .int .i64 a0_10, .int .i64 a0_11] 24 (0, 0)) (by (with_reducible repeat (first | refine blk_drewN ?_ _ | refine blk_drew ?_ | refine blk_alloc ?_ _)); exact BK150.out)) : gb151 ≠ gb150)); clear BK150; clear HB; have BK150 := n0_; have HB := n1_; have BK151 := n2_; have GW151 := n3_; have GE151 := n4_; have NB150_151 := n5_; have NB151_150 := n6_; clear n0_ n1_ n2_ n3_ n4_ n5_ n6_; clear hb hbox hg))
  go_loopg [6] k (fun kq v6 w' => ∃ (x6_1 : Int) (x152000_1 : Int) (x152001_1 : Int) (x152002_1 : Int) (x152003_1 : Int) (x152004_1 : Int) (x152005_1 : Int) (x152006_1 : Int) (x152007_1 : Int) (x152008_1 : Int) (x152009_1 : Int) (x152010_1 : Int) (x152011_1 : Int), v6 = .int .i64 x6_1 ∧ Aside0 (arrearsref8_Post.l0 kq l1 x6_1 a0_0 a0_1 a0_2 a0_3 a0_4 a0_5 a0_6 a0_7 a0_8 a0_9 a0_10 a0_11 = some (r1, r2, r3, r4, r5, r6, r7, r8, r9, r10, r11, r12, r13)) ∧ Aside0 (kq ≤ k) ∧ Aside0 (w'.heap[gb150]? = some (.cells #[.int .i64 a0_0, .int .i64 a0_1, .int .i64 a0_2, .int .i64 a0_3, .int .i64 a0_4, .int .i64 a0_5, .int .i64 a0_6, .int .i64 a0_7, .int .i64 a0_8, .int .i64 a0_9, .int .i64 a0_10, .int .i64 a0_11] 24 (0, 0))) ∧ Aside0 (w'.heap[gb151]? = some (.cells #[.int .i64 x152000_1, .int .i64 x152001_1, .int .i64 x152002_1, .int .i64 x152003_1, .int .i64 x152004_1, .int .i64 x152005_1, .int .i64 x152006_1, .int .i64 x152007_1, .int .i64 x152008_1, .int .i64 x152009_1, .int .i64 x152010_1, .int .i64 x152011_1] 24 (0, 0))) ∧ Aside0 (Below w.heap.size w w'))
  case atStart => exact ⟨(0), (0), (0), (0), (0), (0), (0), (0), (0), (0), (0), (0), (0), (by first | rfl | (simp; done) | (simp [*]; done)), H', ⟨Nat.le_refl _⟩, ⟨by (with_reducible repeat (first | refine blk_drewN ?_ _ | refine blk_drew ?_ | refine blk_alloc ?_ _)); exact BK150.out⟩, ⟨by (with_reducible repeat (first | refine blk_drewN ?_ _ | refine blk_drew ?_ | refine blk_alloc ?_ _)); exact BK151.out⟩, ⟨by repeat (first | (with_reducible first | exact HB.out | apply below_alloc | apply pw_below_drewN | apply below_drew1 | refine below_set ?_ GE150.out | refine below_set ?_ GE151.out) | exact HB.out)⟩⟩
  case round =>
    clear H'
    try clear c1
    try clear p2
    obtain ⟨x6_1, x152000_1, x152001_1, x152002_1, x152003_1, x152004_1, x152005_1, x152006_1, x152007_1, x152008_1, x152009_1, x152010_1, x152011_1, rfl, HA, HK1, BK150, BK151, HB⟩ := hrel
    cases gk with
    | zero => exact absurd HA.out (by simp [arrearsref8_Post.l0])
    | succ k1 =>
      have H := HA.out
      clear HA
      simp only [arrearsref8_Post.l0] at H
      by_cases c5 : x6_1 < (l1.length : Int)
      · rw [if_pos c5] at H
        have c5b0 : decide (x6_1 < (l1.length : Int)) = true := decide_eq_true c5
        clear c5
        by_cases c6 : 0 ≤ x6_1
        · rw [if_pos c6] at H
          have c6b0 : decide (0 ≤ x6_1) = true := decide_eq_true c6
          clear c6
          replace H := Option.bind_eq_some_iff.mp H
          obtain ⟨t153, A70, H⟩ := H
          replace H : (if t153 = 0 then (arrearsref8_Post.l0 k1 l1 (wrap64 (x6_1 + 1)) a0_0 a0_1 a0_2 a0_3 a0_4 a0_5 a0_6 a0_7 a0_8 a0_9 a0_10 a0_11) else (some (a0_0, a0_1, a0_2, a0_3, a0_4, a0_5, a0_6, a0_7, a0_8, a0_9, a0_10, a0_11, t153))) = some (r1, r2, r3, r4, r5, r6, r7, r8, r9, r10, r11, r12, r13) := H
          have A7 := Aside0.mk A70
          clear A70
          by_cases c8 : t153 = 0
          · rw [if_pos c8] at H
            have c8b0 : (t153 == 0) = true := beq_iff_eq.mpr c8
            have c8b1 : (t153 != 0) = false := bne_eq_false_iff_eq.mpr c8
            clear c8
            have H' := Aside0.mk H
            clear H
            have p152 : 0 ≤ (x6_1 : Int) := of_decide_eq_true (by first | (with_reducible assumption) | assumption)
            have q152 : x6_1 < (l1.length : Int) := of_decide_eq_true (by first | (with_reducible assumption) | assumption)
            obtain ⟨ad152, e152, hx152_0, hx152_1, hx152_2⟩ := at_T43 HR1.out x6_1 p152 q152
            cases e152
            replace hx152_0 := (HB.out.cell (World.block_lt_of_cell? w _ hx152_0)).trans hx152_0
            replace hx152_1 := (HB.out.cell (World.block_lt_of_cell? w _ hx152_1)).trans hx152_1
            replace hx152_2 := (HB.out.cell (World.block_lt_of_cell? w _ hx152_2)).trans hx152_2
            replace p152 := eq_true p152
            replace q152 := eq_true q152
            go_wp2_with (first | ((with_reducible refine gate_callee (f := 39) rfl ?_); refine goesL_ (some 23) rfl rfl Tryd.func39 (by kernel_rfl) rfl #[.agg #[.int .i64 ((rd_T43 l1 x6_1).f0), .int .i64 ((rd_T43 l1 x6_1).f1), .int .i64 ((rd_T43 l1 x6_1).f2)]] rfl (by (try simp only [List.map_toArray, List.map_cons, List.map_nil]); first | done | rfl | (simp only [List.length_drop, List.length_take]; rfl)) ?_; (with_reducible refine (arrearsref8_refused.calls k1 ((rd_T43 l1 x6_1).f0) ((rd_T43 l1 x6_1).f1) ((rd_T43 l1 x6_1).f2) t153 _ A7.out).mono ?_); rintro e w9 ⟨rfl, hb⟩; refine ⟨_, rfl, ?_⟩; have n0_ := Aside0.mk (blk_below (g := gb150) (o := .cells #[.int .i64 a0_0, .int .i64 a0_1, .int .i64 a0_2, .int .i64 a0_3, .int .i64 a0_4, .int .i64 a0_5, .int .i64 a0_6, .int .i64 a0_7, .int .i64 a0_8, .int .i64 a0_9, .int .i64 a0_10, .int .i64 a0_11] 24 (0, 0)) (by (with_reducible repeat (first | refine blk_drewN ?_ _ | refine blk_drew ?_ | refine blk_alloc ?_ _)); exact BK150.out) hb); have n1_ := Aside0.mk (blk_below (g := gb151) (o := .cells #[.int .i64 x152000_1, .int .i64 x152001_1, .int .i64 x152002_1, .int .i64 x152003_1, .int .i64 x152004_1, .int .i64 x152005_1, .int .i64 x152006_1, .int .i64 x152007_1, .int .i64 x152008_1, .int .i64 x152009_1, .int .i64 x152010_1, .int .i64 x152011_1] 24 (0, 0)) (by (with_reducible repeat (first | refine blk_drewN ?_ _ | refine blk_drew ?_ | refine blk_alloc ?_ _)); exact BK151.out) hb); have n2_ := Aside0.mk (below_step (by repeat (first | (with_reducible first | exact HB.out | apply below_alloc | apply pw_below_drewN | apply below_drew1 | refine below_set ?_ GE150.out | refine below_set ?_ GE151.out) | exact HB.out)) hb); clear BK150; clear BK151; clear HB; have BK150 := n0_; have BK151 := n1_; have HB := n2_; clear n0_ n1_ n2_; (try clear hb); (try clear hb2); (try clear hk); (try clear hi)))
            go_roundg k1
            case measure => have := HK1.out; omega
            case rel => exact ⟨(wrap64 (x6_1 + 1)), (x152000_1), (x152001_1), (x152002_1), (x152003_1), (x152004_1), (x152005_1), (x152006_1), (x152007_1), (x152008_1), (x152009_1), (x152010_1), (x152011_1), (by first | rfl | (simp; done) | (simp [*]; done)), H', ⟨by have := HK1.out; omega⟩, ⟨by (with_reducible repeat (first | refine blk_drewN ?_ _ | refine blk_drew ?_ | refine blk_alloc ?_ _)); exact BK150.out⟩, ⟨by (with_reducible repeat (first | refine blk_drewN ?_ _ | refine blk_drew ?_ | refine blk_alloc ?_ _)); exact BK151.out⟩, ⟨by repeat (first | (with_reducible first | exact HB.out | apply below_alloc | apply pw_below_drewN | apply below_drew1 | refine below_set ?_ GE150.out | refine below_set ?_ GE151.out) | exact HB.out)⟩⟩
          · rw [if_neg c8] at H
            have c8b0 : (t153 == 0) = false := beq_eq_false_iff_ne.mpr c8
            have c8b1 : (t153 != 0) = true := bne_iff_ne.mpr c8
            simp only [Option.some.injEq, Prod.mk.injEq] at H
            obtain ⟨rfl, rfl, rfl, rfl, rfl, rfl, rfl, rfl, rfl, rfl, rfl, rfl, rfl⟩ := H
            have p152 : 0 ≤ (x6_1 : Int) := of_decide_eq_true (by first | (with_reducible assumption) | assumption)
            have q152 : x6_1 < (l1.length : Int) := of_decide_eq_true (by first | (with_reducible assumption) | assumption)
            obtain ⟨ad152, e152, hx152_0, hx152_1, hx152_2⟩ := at_T43 HR1.out x6_1 p152 q152
            cases e152
            replace hx152_0 := (HB.out.cell (World.block_lt_of_cell? w _ hx152_0)).trans hx152_0
            replace hx152_1 := (HB.out.cell (World.block_lt_of_cell? w _ hx152_1)).trans hx152_1
            replace hx152_2 := (HB.out.cell (World.block_lt_of_cell? w _ hx152_2)).trans hx152_2
            replace p152 := eq_true p152
            replace q152 := eq_true q152
            go_wp2_with (first | ((with_reducible refine gate_callee (f := 39) rfl ?_); refine goesL_ (some 23) rfl rfl Tryd.func39 (by kernel_rfl) rfl #[.agg #[.int .i64 ((rd_T43 l1 x6_1).f0), .int .i64 ((rd_T43 l1 x6_1).f1), .int .i64 ((rd_T43 l1 x6_1).f2)]] rfl (by (try simp only [List.map_toArray, List.map_cons, List.map_nil]); first | done | rfl | (simp only [List.length_drop, List.length_take]; rfl)) ?_; (with_reducible refine (arrearsref8_refused.calls k1 ((rd_T43 l1 x6_1).f0) ((rd_T43 l1 x6_1).f1) ((rd_T43 l1 x6_1).f2) t153 _ A7.out).mono ?_); rintro e w10 ⟨rfl, hb⟩; refine ⟨_, rfl, ?_⟩; have n0_ := Aside0.mk (blk_below (g := gb150) (o := .cells #[.int .i64 a0_0, .int .i64 a0_1, .int .i64 a0_2, .int .i64 a0_3, .int .i64 a0_4, .int .i64 a0_5, .int .i64 a0_6, .int .i64 a0_7, .int .i64 a0_8, .int .i64 a0_9, .int .i64 a0_10, .int .i64 a0_11] 24 (0, 0)) (by (with_reducible repeat (first | refine blk_drewN ?_ _ | refine blk_drew ?_ | refine blk_alloc ?_ _)); exact BK150.out) hb); have n1_ := Aside0.mk (blk_below (g := gb151) (o := .cells #[.int .i64 x152000_1, .int .i64 x152001_1, .int .i64 x152002_1, .int .i64 x152003_1, .int .i64 x152004_1, .int .i64 x152005_1, .int .i64 x152006_1, .int .i64 x152007_1, .int .i64 x152008_1, .int .i64 x152009_1, .int .i64 x152010_1, .int .i64 x152011_1] 24 (0, 0)) (by (with_reducible repeat (first | refine blk_drewN ?_ _ | refine blk_drew ?_ | refine blk_alloc ?_ _)); exact BK151.out) hb); have n2_ := Aside0.mk (below_step (by repeat (first | (with_reducible first | exact HB.out | apply below_alloc | apply pw_below_drewN | apply below_drew1 | refine below_set ?_ GE150.out | refine below_set ?_ GE151.out) | exact HB.out)) hb); clear BK150; clear BK151; clear HB; have BK150 := n0_; have BK151 := n1_; have HB := n2_; clear n0_ n1_ n2_; (try clear hb); (try clear hb2); (try clear hk); (try clear hi); have hnb11 := NB150_151.out; have hnc11 := NB151_150.out; have hcz12_0 : w10.cell? ⟨gb150, 0, none⟩ = some (.int .i64 a0_0) := (blk_cell BK150.out 0).trans rfl; have hcz12_1 : w10.cell? ⟨gb150, 1, none⟩ = some (.int .i64 a0_1) := (blk_cell BK150.out 1).trans rfl; have hcz12_2 : w10.cell? ⟨gb150, 2, none⟩ = some (.int .i64 a0_2) := (blk_cell BK150.out 2).trans rfl; have hcz12_3 : w10.cell? ⟨gb150, 3, none⟩ = some (.int .i64 a0_3) := (blk_cell BK150.out 3).trans rfl; have hcz12_4 : w10.cell? ⟨gb150, 4, none⟩ = some (.int .i64 a0_4) := (blk_cell BK150.out 4).trans rfl; have hcz12_5 : w10.cell? ⟨gb150, 5, none⟩ = some (.int .i64 a0_5) := (blk_cell BK150.out 5).trans rfl; have hcz12_6 : w10.cell? ⟨gb150, 6, none⟩ = some (.int .i64 a0_6) := (blk_cell BK150.out 6).trans rfl; have hcz12_7 : w10.cell? ⟨gb150, 7, none⟩ = some (.int .i64 a0_7) := (blk_cell BK150.out 7).trans rfl; have hcz12_8 : w10.cell? ⟨gb150, 8, none⟩ = some (.int .i64 a0_8) := (blk_cell BK150.out 8).trans rfl; have hcz12_9 : w10.cell? ⟨gb150, 9, none⟩ = some (.int .i64 a0_9) := (blk_cell BK150.out 9).trans rfl; have hcz12_10 : w10.cell? ⟨gb150, 10, none⟩ = some (.int .i64 a0_10) := (blk_cell BK150.out 10).trans rfl; have hcz12_11 : w10.cell? ⟨gb150, 11, none⟩ = some (.int .i64 a0_11) := (blk_cell BK150.out 11).trans rfl; have hfz12_0 := blk_frozen BK150.out 0; have hfz12_1 := blk_frozen BK150.out 1; have hfz12_2 := blk_frozen BK150.out 2; have hfz12_3 := blk_frozen BK150.out 3; have hfz12_4 := blk_frozen BK150.out 4; have hfz12_5 := blk_frozen BK150.out 5; have hfz12_6 := blk_frozen BK150.out 6; have hfz12_7 := blk_frozen BK150.out 7; have hfz12_8 := blk_frozen BK150.out 8; have hfz12_9 := blk_frozen BK150.out 9; have hfz12_10 := blk_frozen BK150.out 10; have hfz12_11 := blk_frozen BK150.out 11; have hcz13_0 : w10.cell? ⟨gb151, 0, none⟩ = some (.int .i64 x152000_1) := (blk_cell BK151.out 0).trans rfl; have hcz13_1 : w10.cell? ⟨gb151, 1, none⟩ = some (.int .i64 x152001_1) := (blk_cell BK151.out 1).trans rfl; have hcz13_2 : w10.cell? ⟨gb151, 2, none⟩ = some (.int .i64 x152002_1) := (blk_cell BK151.out 2).trans rfl; have hcz13_3 : w10.cell? ⟨gb151, 3, none⟩ = some (.int .i64 x152003_1) := (blk_cell BK151.out 3).trans rfl; have hcz13_4 : w10.cell? ⟨gb151, 4, none⟩ = some (.int .i64 x152004_1) := (blk_cell BK151.out 4).trans rfl; have hcz13_5 : w10.cell? ⟨gb151, 5, none⟩ = some (.int .i64 x152005_1) := (blk_cell BK151.out 5).trans rfl; have hcz13_6 : w10.cell? ⟨gb151, 6, none⟩ = some (.int .i64 x152006_1) := (blk_cell BK151.out 6).trans rfl; have hcz13_7 : w10.cell? ⟨gb151, 7, none⟩ = some (.int .i64 x152007_1) := (blk_cell BK151.out 7).trans rfl; have hcz13_8 : w10.cell? ⟨gb151, 8, none⟩ = some (.int .i64 x152008_1) := (blk_cell BK151.out 8).trans rfl; have hcz13_9 : w10.cell? ⟨gb151, 9, none⟩ = some (.int .i64 x152009_1) := (blk_cell BK151.out 9).trans rfl; have hcz13_10 : w10.cell? ⟨gb151, 10, none⟩ = some (.int .i64 x152010_1) := (blk_cell BK151.out 10).trans rfl; have hcz13_11 : w10.cell? ⟨gb151, 11, none⟩ = some (.int .i64 x152011_1) := (blk_cell BK151.out 11).trans rfl; have hfz13_0 := blk_frozen BK151.out 0; have hfz13_1 := blk_frozen BK151.out 1; have hfz13_2 := blk_frozen BK151.out 2; have hfz13_3 := blk_frozen BK151.out 3; have hfz13_4 := blk_frozen BK151.out 4; have hfz13_5 := blk_frozen BK151.out 5; have hfz13_6 := blk_frozen BK151.out 6; have hfz13_7 := blk_frozen BK151.out 7; have hfz13_8 := blk_frozen BK151.out 8; have hfz13_9 := blk_frozen BK151.out 9; have hfz13_10 := blk_frozen BK151.out 10; have hfz13_11 := blk_frozen BK151.out 11))
            refine bodyPost_ret (results_ct rfl _ _ gb151 24 #[.int .i64 a0_0, .int .i64 a0_1, .int .i64 a0_2, .int .i64 a0_3, .int .i64 a0_4, .int .i64 a0_5, .int .i64 a0_6, .int .i64 a0_7, .int .i64 a0_8, .int .i64 a0_9, .int .i64 a0_10, .int .i64 a0_11] (0, 0) _ rfl (by (with_reducible repeat (first | refine blk_drewN ?_ _ | refine blk_drew ?_ | refine blk_alloc ?_ _)); refine blk_put (cs := #[.int .i64 a0_0, .int .i64 a0_1, .int .i64 a0_2, .int .i64 a0_3, .int .i64 a0_4, .int .i64 a0_5, .int .i64 a0_6, .int .i64 a0_7, .int .i64 a0_8, .int .i64 a0_9, .int .i64 a0_10, .int .i64 x152011_1]) ?_ 11 _ rfl; (with_reducible repeat (first | refine blk_drewN ?_ _ | refine blk_drew ?_ | refine blk_alloc ?_ _)); refine blk_put (cs := #[.int .i64 a0_0, .int .i64 a0_1, .int .i64 a0_2, .int .i64 a0_3, .int .i64 a0_4, .int .i64 a0_5, .int .i64 a0_6, .int .i64 a0_7, .int .i64 a0_8, .int .i64 a0_9, .int .i64 x152010_1, .int .i64 x152011_1]) ?_ 10 _ rfl; (with_reducible repeat (first | refine blk_drewN ?_ _ | refine blk_drew ?_ | refine blk_alloc ?_ _)); refine blk_put (cs := #[.int .i64 a0_0, .int .i64 a0_1, .int .i64 a0_2, .int .i64 a0_3, .int .i64 a0_4, .int .i64 a0_5, .int .i64 a0_6, .int .i64 a0_7, .int .i64 a0_8, .int .i64 x152009_1, .int .i64 x152010_1, .int .i64 x152011_1]) ?_ 9 _ rfl; (with_reducible repeat (first | refine blk_drewN ?_ _ | refine blk_drew ?_ | refine blk_alloc ?_ _)); refine blk_put (cs := #[.int .i64 a0_0, .int .i64 a0_1, .int .i64 a0_2, .int .i64 a0_3, .int .i64 a0_4, .int .i64 a0_5, .int .i64 a0_6, .int .i64 a0_7, .int .i64 x152008_1, .int .i64 x152009_1, .int .i64 x152010_1, .int .i64 x152011_1]) ?_ 8 _ rfl; (with_reducible repeat (first | refine blk_drewN ?_ _ | refine blk_drew ?_ | refine blk_alloc ?_ _)); refine blk_put (cs := #[.int .i64 a0_0, .int .i64 a0_1, .int .i64 a0_2, .int .i64 a0_3, .int .i64 a0_4, .int .i64 a0_5, .int .i64 a0_6, .int .i64 x152007_1, .int .i64 x152008_1, .int .i64 x152009_1, .int .i64 x152010_1, .int .i64 x152011_1]) ?_ 7 _ rfl; (with_reducible repeat (first | refine blk_drewN ?_ _ | refine blk_drew ?_ | refine blk_alloc ?_ _)); refine blk_put (cs := #[.int .i64 a0_0, .int .i64 a0_1, .int .i64 a0_2, .int .i64 a0_3, .int .i64 a0_4, .int .i64 a0_5, .int .i64 x152006_1, .int .i64 x152007_1, .int .i64 x152008_1, .int .i64 x152009_1, .int .i64 x152010_1, .int .i64 x152011_1]) ?_ 6 _ rfl; (with_reducible repeat (first | refine blk_drewN ?_ _ | refine blk_drew ?_ | refine blk_alloc ?_ _)); refine blk_put (cs := #[.int .i64 a0_0, .int .i64 a0_1, .int .i64 a0_2, .int .i64 a0_3, .int .i64 a0_4, .int .i64 x152005_1, .int .i64 x152006_1, .int .i64 x152007_1, .int .i64 x152008_1, .int .i64 x152009_1, .int .i64 x152010_1, .int .i64 x152011_1]) ?_ 5 _ rfl; (with_reducible repeat (first | refine blk_drewN ?_ _ | refine blk_drew ?_ | refine blk_alloc ?_ _)); refine blk_put (cs := #[.int .i64 a0_0, .int .i64 a0_1, .int .i64 a0_2, .int .i64 a0_3, .int .i64 x152004_1, .int .i64 x152005_1, .int .i64 x152006_1, .int .i64 x152007_1, .int .i64 x152008_1, .int .i64 x152009_1, .int .i64 x152010_1, .int .i64 x152011_1]) ?_ 4 _ rfl; (with_reducible repeat (first | refine blk_drewN ?_ _ | refine blk_drew ?_ | refine blk_alloc ?_ _)); refine blk_put (cs := #[.int .i64 a0_0, .int .i64 a0_1, .int .i64 a0_2, .int .i64 x152003_1, .int .i64 x152004_1, .int .i64 x152005_1, .int .i64 x152006_1, .int .i64 x152007_1, .int .i64 x152008_1, .int .i64 x152009_1, .int .i64 x152010_1, .int .i64 x152011_1]) ?_ 3 _ rfl; (with_reducible repeat (first | refine blk_drewN ?_ _ | refine blk_drew ?_ | refine blk_alloc ?_ _)); refine blk_put (cs := #[.int .i64 a0_0, .int .i64 a0_1, .int .i64 x152002_1, .int .i64 x152003_1, .int .i64 x152004_1, .int .i64 x152005_1, .int .i64 x152006_1, .int .i64 x152007_1, .int .i64 x152008_1, .int .i64 x152009_1, .int .i64 x152010_1, .int .i64 x152011_1]) ?_ 2 _ rfl; (with_reducible repeat (first | refine blk_drewN ?_ _ | refine blk_drew ?_ | refine blk_alloc ?_ _)); refine blk_put (cs := #[.int .i64 a0_0, .int .i64 x152001_1, .int .i64 x152002_1, .int .i64 x152003_1, .int .i64 x152004_1, .int .i64 x152005_1, .int .i64 x152006_1, .int .i64 x152007_1, .int .i64 x152008_1, .int .i64 x152009_1, .int .i64 x152010_1, .int .i64 x152011_1]) ?_ 1 _ rfl; (with_reducible repeat (first | refine blk_drewN ?_ _ | refine blk_drew ?_ | refine blk_alloc ?_ _)); refine blk_put (cs := #[.int .i64 x152000_1, .int .i64 x152001_1, .int .i64 x152002_1, .int .i64 x152003_1, .int .i64 x152004_1, .int .i64 x152005_1, .int .i64 x152006_1, .int .i64 x152007_1, .int .i64 x152008_1, .int .i64 x152009_1, .int .i64 x152010_1, .int .i64 x152011_1]) ?_ 0 _ rfl; (with_reducible repeat (first | refine blk_drewN ?_ _ | refine blk_drew ?_ | refine blk_alloc ?_ _)); exact BK151.out) Tryd.underlying24 rfl (by kernel_rfl)) rfl ?_
            exact ⟨by first | rfl | (simp [errW_none, errW_some] <;> rfl) | (simp [*, errW_none, errW_some] <;> rfl), by repeat (first | (with_reducible first | exact HB.out | apply below_alloc | apply pw_below_drewN | apply below_drew1 | refine below_set ?_ GE150.out | refine below_set ?_ GE151.out) | exact HB.out)⟩
        · rw [if_neg c6] at H
          exact absurd H (by simp)
      · rw [if_neg c5] at H
        have c5b0 : decide (x6_1 < (l1.length : Int)) = false := decide_eq_false c5
        clear c5
        have H' := Aside0.mk H
        clear H
        go_wp2_with (first | ((with_reducible refine gate_dst (N := 8) rfl ?_); refine box_event ?hg (N := 8) ?hd (cs := #[.int .i64 0, .int .i64 0, .int .i64 0, .int .i64 0, .int .i64 0, .int .i64 0, .int .i64 0, .int .i64 0, .int .i64 0, .int .i64 0, .int .i64 0, .int .i64 0]) (t := 24) ?hr ?_; (case hd => rfl); (case hg => rfl); (case hr => first | (go_simp; done) | (go_simp; rfl)); intro gb154 hg w14 hbox hb; have n0_ := Aside0.mk (blk_below (g := gb150) (o := .cells #[.int .i64 a0_0, .int .i64 a0_1, .int .i64 a0_2, .int .i64 a0_3, .int .i64 a0_4, .int .i64 a0_5, .int .i64 a0_6, .int .i64 a0_7, .int .i64 a0_8, .int .i64 a0_9, .int .i64 a0_10, .int .i64 a0_11] 24 (0, 0)) (by (with_reducible repeat (first | refine blk_drewN ?_ _ | refine blk_drew ?_ | refine blk_alloc ?_ _)); exact BK150.out) hb); have n1_ := Aside0.mk (blk_below (g := gb151) (o := .cells #[.int .i64 x152000_1, .int .i64 x152001_1, .int .i64 x152002_1, .int .i64 x152003_1, .int .i64 x152004_1, .int .i64 x152005_1, .int .i64 x152006_1, .int .i64 x152007_1, .int .i64 x152008_1, .int .i64 x152009_1, .int .i64 x152010_1, .int .i64 x152011_1] 24 (0, 0)) (by (with_reducible repeat (first | refine blk_drewN ?_ _ | refine blk_drew ?_ | refine blk_alloc ?_ _)); exact BK151.out) hb); have n2_ := Aside0.mk (below_step (by repeat (first | (with_reducible first | exact HB.out | apply below_alloc | apply pw_below_drewN | apply below_drew1 | refine below_set ?_ GE150.out | refine below_set ?_ GE151.out) | exact HB.out)) hb); have n3_ := Aside0.mk (hbox); have n4_ := Aside0.mk ((by rw [hg]; exact (below_size (by repeat (first | (with_reducible first | exact HB.out | apply below_alloc | apply pw_below_drewN | apply below_drew1 | refine below_set ?_ GE150.out | refine below_set ?_ GE151.out) | exact HB.out))) : w.heap.size ≤ gb154)); have n5_ := Aside0.mk ((by rw [hg]; exact (below_size (by repeat (first | (with_reducible first | exact HB.out | apply below_alloc | apply pw_below_drewN | apply below_drew1 | refine below_set ?_ GE150.out | refine below_set ?_ GE151.out) | exact HB.out))) : w.heap.size ≤ gb154)); have n6_ := Aside0.mk ((by rw [hg]; exact Nat.ne_of_lt (blk_lt (g := gb150) (o := .cells #[.int .i64 a0_0, .int .i64 a0_1, .int .i64 a0_2, .int .i64 a0_3, .int .i64 a0_4, .int .i64 a0_5, .int .i64 a0_6, .int .i64 a0_7, .int .i64 a0_8, .int .i64 a0_9, .int .i64 a0_10, .int .i64 a0_11] 24 (0, 0)) (by (with_reducible repeat (first | refine blk_drewN ?_ _ | refine blk_drew ?_ | refine blk_alloc ?_ _)); exact BK150.out)) : gb150 ≠ gb154)); have n7_ := Aside0.mk ((by rw [hg]; exact Nat.ne_of_gt (blk_lt (g := gb150) (o := .cells #[.int .i64 a0_0, .int .i64 a0_1, .int .i64 a0_2, .int .i64 a0_3, .int .i64 a0_4, .int .i64 a0_5, .int .i64 a0_6, .int .i64 a0_7, .int .i64 a0_8, .int .i64 a0_9, .int .i64 a0_10, .int .i64 a0_11] 24 (0, 0)) (by (with_reducible repeat (first | refine blk_drewN ?_ _ | refine blk_drew ?_ | refine blk_alloc ?_ _)); exact BK150.out)) : gb154 ≠ gb150)); have n8_ := Aside0.mk ((by rw [hg]; exact Nat.ne_of_lt (blk_lt (g := gb151) (o := .cells #[.int .i64 x152000_1, .int .i64 x152001_1, .int .i64 x152002_1, .int .i64 x152003_1, .int .i64 x152004_1, .int .i64 x152005_1, .int .i64 x152006_1, .int .i64 x152007_1, .int .i64 x152008_1, .int .i64 x152009_1, .int .i64 x152010_1, .int .i64 x152011_1] 24 (0, 0)) (by (with_reducible repeat (first | refine blk_drewN ?_ _ | refine blk_drew ?_ | refine blk_alloc ?_ _)); exact BK151.out)) : gb151 ≠ gb154)); have n9_ := Aside0.mk ((by rw [hg]; exact Nat.ne_of_gt (blk_lt (g := gb151) (o := .cells #[.int .i64 x152000_1, .int .i64 x152001_1, .int .i64 x152002_1, .int .i64 x152003_1, .int .i64 x152004_1, .int .i64 x152005_1, .int .i64 x152006_1, .int .i64 x152007_1, .int .i64 x152008_1, .int .i64 x152009_1, .int .i64 x152010_1, .int .i64 x152011_1] 24 (0, 0)) (by (with_reducible repeat (first | refine blk_drewN ?_ _ | refine blk_drew ?_ | refine blk_alloc ?_ _)); exact BK151.out)) : gb154 ≠ gb151)); clear BK150; clear BK151; clear HB; have BK150 := n0_; have BK151 := n1_; have HB := n2_; have BK154 := n3_; have GW154 := n4_; have GE154 := n5_; have NB150_154 := n6_; have NB154_150 := n7_; have NB151_154 := n8_; have NB154_151 := n9_; clear n0_ n1_ n2_ n3_ n4_ n5_ n6_ n7_ n8_ n9_; clear hb hbox hg))
        go_loopg [9] k1 (fun kq v9 w' => ∃ (x9_2 : Int) (x152000_2 : Int) (x152001_2 : Int) (x152002_2 : Int) (x152003_2 : Int) (x152004_2 : Int) (x152005_2 : Int) (x152006_2 : Int) (x152007_2 : Int) (x152008_2 : Int) (x152009_2 : Int) (x152010_2 : Int) (x152011_2 : Int) (x155000_2 : Int) (x155001_2 : Int) (x155002_2 : Int) (x155003_2 : Int) (x155004_2 : Int) (x155005_2 : Int) (x155006_2 : Int) (x155007_2 : Int) (x155008_2 : Int) (x155009_2 : Int) (x155010_2 : Int) (x155011_2 : Int), v9 = .int .i64 x9_2 ∧ Aside0 (arrearsref8_Post.l1 kq l1 x9_2 a0_0 a0_1 a0_2 a0_3 a0_4 a0_5 a0_6 a0_7 a0_8 a0_9 a0_10 a0_11 x155000_2 x155001_2 x155002_2 x155003_2 x155004_2 x155005_2 x155006_2 x155007_2 x155008_2 x155009_2 x155010_2 x155011_2 = some (r1, r2, r3, r4, r5, r6, r7, r8, r9, r10, r11, r12, r13)) ∧ Aside0 (kq ≤ k1) ∧ Aside0 (w'.heap[gb150]? = some (.cells #[.int .i64 a0_0, .int .i64 a0_1, .int .i64 a0_2, .int .i64 a0_3, .int .i64 a0_4, .int .i64 a0_5, .int .i64 a0_6, .int .i64 a0_7, .int .i64 a0_8, .int .i64 a0_9, .int .i64 a0_10, .int .i64 a0_11] 24 (0, 0))) ∧ Aside0 (w'.heap[gb151]? = some (.cells #[.int .i64 x152000_2, .int .i64 x152001_2, .int .i64 x152002_2, .int .i64 x152003_2, .int .i64 x152004_2, .int .i64 x152005_2, .int .i64 x152006_2, .int .i64 x152007_2, .int .i64 x152008_2, .int .i64 x152009_2, .int .i64 x152010_2, .int .i64 x152011_2] 24 (0, 0))) ∧ Aside0 (w'.heap[gb154]? = some (.cells #[.int .i64 x155000_2, .int .i64 x155001_2, .int .i64 x155002_2, .int .i64 x155003_2, .int .i64 x155004_2, .int .i64 x155005_2, .int .i64 x155006_2, .int .i64 x155007_2, .int .i64 x155008_2, .int .i64 x155009_2, .int .i64 x155010_2, .int .i64 x155011_2] 24 (0, 0))) ∧ Aside0 (Below w.heap.size w w'))
        case atStart => exact ⟨(0), (x152000_1), (x152001_1), (x152002_1), (x152003_1), (x152004_1), (x152005_1), (x152006_1), (x152007_1), (x152008_1), (x152009_1), (x152010_1), (x152011_1), (0), (0), (0), (0), (0), (0), (0), (0), (0), (0), (0), (0), (by first | rfl | (simp; done) | (simp [*]; done)), H', ⟨Nat.le_refl _⟩, ⟨by (with_reducible repeat (first | refine blk_drewN ?_ _ | refine blk_drew ?_ | refine blk_alloc ?_ _)); exact BK150.out⟩, ⟨by (with_reducible repeat (first | refine blk_drewN ?_ _ | refine blk_drew ?_ | refine blk_alloc ?_ _)); exact BK151.out⟩, ⟨by (with_reducible repeat (first | refine blk_drewN ?_ _ | refine blk_drew ?_ | refine blk_alloc ?_ _)); exact BK154.out⟩, ⟨by repeat (first | (with_reducible first | exact HB.out | apply below_alloc | apply pw_below_drewN | apply below_drew1 | refine below_set ?_ GE150.out | refine below_set ?_ GE151.out | refine below_set ?_ GE154.out) | exact HB.out)⟩⟩
        case round =>
          clear H'
          try clear c1
          try clear p1
          try clear q1
          try clear hx1
          try clear p2
          try clear c3
          try clear c5
          try clear c5b0
          try clear c6
          try clear c6b0
          try clear p6
          try clear c8
          try clear c8b0
          try clear c8b1
          try clear c11
          try clear hcz12_0
          try clear hcz12_1
          try clear hcz12_10
          try clear hcz12_11
          try clear hcz12_2
          try clear hcz12_3
          try clear hcz12_4
          try clear hcz12_5
          try clear hcz12_6
          try clear hcz12_7
          try clear hcz12_8
          try clear hcz12_9
          try clear hcz13_0
          try clear hcz13_1
          try clear hcz13_10
          try clear hcz13_11
          try clear hcz13_2
          try clear hcz13_3
          try clear hcz13_4
          try clear hcz13_5
          try clear hcz13_6
          try clear hcz13_7
          try clear hcz13_8
          try clear hcz13_9
          try clear hfz12_0
          try clear hfz12_1
          try clear hfz12_10
          try clear hfz12_11
          try clear hfz12_2
          try clear hfz12_3
          try clear hfz12_4
          try clear hfz12_5
          try clear hfz12_6
          try clear hfz12_7
          try clear hfz12_8
          try clear hfz12_9
          try clear hfz13_0
          try clear hfz13_1
          try clear hfz13_10
          try clear hfz13_11
          try clear hfz13_2
          try clear hfz13_3
          try clear hfz13_4
          try clear hfz13_5
          try clear hfz13_6
          try clear hfz13_7
          try clear hfz13_8
          try clear hfz13_9
          try clear hx152_0
          try clear hx152_1
          try clear hx152_2
          try clear p152
          try clear p2
          try clear q152
          obtain ⟨x9_2, x152000_2, x152001_2, x152002_2, x152003_2, x152004_2, x152005_2, x152006_2, x152007_2, x152008_2, x152009_2, x152010_2, x152011_2, x155000_2, x155001_2, x155002_2, x155003_2, x155004_2, x155005_2, x155006_2, x155007_2, x155008_2, x155009_2, x155010_2, x155011_2, rfl, HA, HK2, BK150, BK151, BK154, HB⟩ := hrel
          cases gk with
          | zero => exact absurd HA.out (by simp [arrearsref8_Post.l1])
          | succ k2 =>
            have H := HA.out
            clear HA
            simp only [arrearsref8_Post.l1] at H
            by_cases c15 : x9_2 < 12
            · rw [if_pos c15] at H
              have c15b0 : decide (x9_2 < 12) = true := decide_eq_true c15
              clear c15
              replace H := Option.bind_eq_some_iff.mp H
              obtain ⟨t155, A160, H⟩ := H
              replace H : ((arrearsref1_Sum.f k2 t155).bind fun bt158 => (if bt158.2 = true then (if bt158.1 = (-9223372036854775808) then (some (a0_0, a0_1, a0_2, a0_3, a0_4, a0_5, a0_6, a0_7, a0_8, a0_9, a0_10, a0_11, 3)) else (if 0 ≤ x9_2 then (arrearsref8_Post.l1 k2 l1 (wrap64 (x9_2 + 1)) a0_0 a0_1 a0_2 a0_3 a0_4 a0_5 a0_6 a0_7 a0_8 a0_9 a0_10 a0_11 (putI x9_2 0 bt158.1 x155000_2) (putI x9_2 1 bt158.1 x155001_2) (putI x9_2 2 bt158.1 x155002_2) (putI x9_2 3 bt158.1 x155003_2) (putI x9_2 4 bt158.1 x155004_2) (putI x9_2 5 bt158.1 x155005_2) (putI x9_2 6 bt158.1 x155006_2) (putI x9_2 7 bt158.1 x155007_2) (putI x9_2 8 bt158.1 x155008_2) (putI x9_2 9 bt158.1 x155009_2) (putI x9_2 10 bt158.1 x155010_2) (putI x9_2 11 bt158.1 x155011_2)) else (none))) else (some (a0_0, a0_1, a0_2, a0_3, a0_4, a0_5, a0_6, a0_7, a0_8, a0_9, a0_10, a0_11, 3)))) = some (r1, r2, r3, r4, r5, r6, r7, r8, r9, r10, r11, r12, r13) := H
              have A16 := Aside0.mk A160
              clear A160
              replace H := Option.bind_eq_some_iff.mp H
              obtain ⟨⟨t158, t159⟩, A170, H⟩ := H
              replace H : (if t159 = true then (if t158 = (-9223372036854775808) then (some (a0_0, a0_1, a0_2, a0_3, a0_4, a0_5, a0_6, a0_7, a0_8, a0_9, a0_10, a0_11, 3)) else (if 0 ≤ x9_2 then (arrearsref8_Post.l1 k2 l1 (wrap64 (x9_2 + 1)) a0_0 a0_1 a0_2 a0_3 a0_4 a0_5 a0_6 a0_7 a0_8 a0_9 a0_10 a0_11 (putI x9_2 0 t158 x155000_2) (putI x9_2 1 t158 x155001_2) (putI x9_2 2 t158 x155002_2) (putI x9_2 3 t158 x155003_2) (putI x9_2 4 t158 x155004_2) (putI x9_2 5 t158 x155005_2) (putI x9_2 6 t158 x155006_2) (putI x9_2 7 t158 x155007_2) (putI x9_2 8 t158 x155008_2) (putI x9_2 9 t158 x155009_2) (putI x9_2 10 t158 x155010_2) (putI x9_2 11 t158 x155011_2)) else (none))) else (some (a0_0, a0_1, a0_2, a0_3, a0_4, a0_5, a0_6, a0_7, a0_8, a0_9, a0_10, a0_11, 3))) = some (r1, r2, r3, r4, r5, r6, r7, r8, r9, r10, r11, r12, r13) := H
              have A17 := Aside0.mk A170
              clear A170
              by_cases c18 : t159 = true
              · subst c18
                have H1 : (if t158 = (-9223372036854775808) then (some (a0_0, a0_1, a0_2, a0_3, a0_4, a0_5, a0_6, a0_7, a0_8, a0_9, a0_10, a0_11, 3)) else (if 0 ≤ x9_2 then (arrearsref8_Post.l1 k2 l1 (wrap64 (x9_2 + 1)) a0_0 a0_1 a0_2 a0_3 a0_4 a0_5 a0_6 a0_7 a0_8 a0_9 a0_10 a0_11 (putI x9_2 0 t158 x155000_2) (putI x9_2 1 t158 x155001_2) (putI x9_2 2 t158 x155002_2) (putI x9_2 3 t158 x155003_2) (putI x9_2 4 t158 x155004_2) (putI x9_2 5 t158 x155005_2) (putI x9_2 6 t158 x155006_2) (putI x9_2 7 t158 x155007_2) (putI x9_2 8 t158 x155008_2) (putI x9_2 9 t158 x155009_2) (putI x9_2 10 t158 x155010_2) (putI x9_2 11 t158 x155011_2)) else (none))) = some (r1, r2, r3, r4, r5, r6, r7, r8, r9, r10, r11, r12, r13) := by rw [if_pos rfl] at H; exact H
                clear H
                have H := H1
                clear H1
                by_cases c19 : t158 = (-9223372036854775808)
                · rw [if_pos c19] at H
                  have c19b0 : (t158 == (-9223372036854775808)) = true := beq_iff_eq.mpr c19
                  have c19b1 : (t158 != (-9223372036854775808)) = false := bne_eq_false_iff_eq.mpr c19
                  clear c19
                  simp only [Option.some.injEq, Prod.mk.injEq] at H
                  obtain ⟨rfl, rfl, rfl, rfl, rfl, rfl, rfl, rfl, rfl, rfl, rfl, rfl, rfl⟩ := H
                  have hnb20 := NB150_151.out
                  have hnc20 := NB151_150.out
                  have hnb21 := NB150_154.out
                  have hnc21 := NB154_150.out
                  have hcz22_0 : wr.cell? ⟨gb150, 0, none⟩ = some (.int .i64 a0_0) := (blk_cell BK150.out 0).trans rfl
                  have hcz22_1 : wr.cell? ⟨gb150, 1, none⟩ = some (.int .i64 a0_1) := (blk_cell BK150.out 1).trans rfl
                  have hcz22_2 : wr.cell? ⟨gb150, 2, none⟩ = some (.int .i64 a0_2) := (blk_cell BK150.out 2).trans rfl
                  have hcz22_3 : wr.cell? ⟨gb150, 3, none⟩ = some (.int .i64 a0_3) := (blk_cell BK150.out 3).trans rfl
                  have hcz22_4 : wr.cell? ⟨gb150, 4, none⟩ = some (.int .i64 a0_4) := (blk_cell BK150.out 4).trans rfl
                  have hcz22_5 : wr.cell? ⟨gb150, 5, none⟩ = some (.int .i64 a0_5) := (blk_cell BK150.out 5).trans rfl
                  have hcz22_6 : wr.cell? ⟨gb150, 6, none⟩ = some (.int .i64 a0_6) := (blk_cell BK150.out 6).trans rfl
                  have hcz22_7 : wr.cell? ⟨gb150, 7, none⟩ = some (.int .i64 a0_7) := (blk_cell BK150.out 7).trans rfl
                  have hcz22_8 : wr.cell? ⟨gb150, 8, none⟩ = some (.int .i64 a0_8) := (blk_cell BK150.out 8).trans rfl
                  have hcz22_9 : wr.cell? ⟨gb150, 9, none⟩ = some (.int .i64 a0_9) := (blk_cell BK150.out 9).trans rfl
                  have hcz22_10 : wr.cell? ⟨gb150, 10, none⟩ = some (.int .i64 a0_10) := (blk_cell BK150.out 10).trans rfl
                  have hcz22_11 : wr.cell? ⟨gb150, 11, none⟩ = some (.int .i64 a0_11) := (blk_cell BK150.out 11).trans rfl
                  have hfz22_0 := blk_frozen BK150.out 0
                  have hfz22_1 := blk_frozen BK150.out 1
                  have hfz22_2 := blk_frozen BK150.out 2
                  have hfz22_3 := blk_frozen BK150.out 3
                  have hfz22_4 := blk_frozen BK150.out 4
                  have hfz22_5 := blk_frozen BK150.out 5
                  have hfz22_6 := blk_frozen BK150.out 6
                  have hfz22_7 := blk_frozen BK150.out 7
                  have hfz22_8 := blk_frozen BK150.out 8
                  have hfz22_9 := blk_frozen BK150.out 9
                  have hfz22_10 := blk_frozen BK150.out 10
                  have hfz22_11 := blk_frozen BK150.out 11
                  go_wp2_with (first | ((with_reducible refine gate_callee (f := 41) rfl ?_); refine goesL_ (some 36) rfl rfl Tryd.func41 (by kernel_rfl) rfl #[.agg #[.int .i64 a0_0, .int .i64 a0_1, .int .i64 a0_2, .int .i64 a0_3, .int .i64 a0_4, .int .i64 a0_5, .int .i64 a0_6, .int .i64 a0_7, .int .i64 a0_8, .int .i64 a0_9, .int .i64 a0_10, .int .i64 a0_11], .slice A1 l1.length c1, .int .i64 x9_2] rfl (by (try simp only [List.map_toArray, List.map_cons, List.map_nil]); first | done | rfl | (simp only [List.length_drop, List.length_take]; rfl)) ?_; (with_reducible refine (arrearsref8_moves.calls k2 a0_0 a0_1 a0_2 a0_3 a0_4 a0_5 a0_6 a0_7 a0_8 a0_9 a0_10 a0_11 _ _ l1 x9_2 t155 _ ?side1 ?side2 A16.out).mono ?_); (case side1 => repeat (first | exact (Kd.C_below HR1.out HB.out) | (with_reducible refine Kd.C_alloc ?_ _) | (with_reducible refine Kd.C_drewN ?_ _) | (with_reducible refine Kd.C_drew ?_))); (case side2 => exact HC1.out); rintro e w23 ⟨v156, rfl, ho0, hb⟩; refine ⟨_, rfl, ?_⟩; have n0_ := Aside0.mk (Kd.R_lower ho0 (below_size (by repeat (first | (with_reducible first | exact HB.out | apply below_alloc | apply pw_below_drewN | apply below_drew1 | refine below_set ?_ GE150.out | refine below_set ?_ GE151.out | refine below_set ?_ GE154.out) | exact HB.out)))); have n1_ := Aside0.mk (blk_below (g := gb150) (o := .cells #[.int .i64 a0_0, .int .i64 a0_1, .int .i64 a0_2, .int .i64 a0_3, .int .i64 a0_4, .int .i64 a0_5, .int .i64 a0_6, .int .i64 a0_7, .int .i64 a0_8, .int .i64 a0_9, .int .i64 a0_10, .int .i64 a0_11] 24 (0, 0)) (by (with_reducible repeat (first | refine blk_drewN ?_ _ | refine blk_drew ?_ | refine blk_alloc ?_ _)); exact BK150.out) hb); have n2_ := Aside0.mk (blk_below (g := gb151) (o := .cells #[.int .i64 x152000_2, .int .i64 x152001_2, .int .i64 x152002_2, .int .i64 x152003_2, .int .i64 x152004_2, .int .i64 x152005_2, .int .i64 x152006_2, .int .i64 x152007_2, .int .i64 x152008_2, .int .i64 x152009_2, .int .i64 x152010_2, .int .i64 x152011_2] 24 (0, 0)) (by (with_reducible repeat (first | refine blk_drewN ?_ _ | refine blk_drew ?_ | refine blk_alloc ?_ _)); exact BK151.out) hb); have n3_ := Aside0.mk (blk_below (g := gb154) (o := .cells #[.int .i64 x155000_2, .int .i64 x155001_2, .int .i64 x155002_2, .int .i64 x155003_2, .int .i64 x155004_2, .int .i64 x155005_2, .int .i64 x155006_2, .int .i64 x155007_2, .int .i64 x155008_2, .int .i64 x155009_2, .int .i64 x155010_2, .int .i64 x155011_2] 24 (0, 0)) (by (with_reducible repeat (first | refine blk_drewN ?_ _ | refine blk_drew ?_ | refine blk_alloc ?_ _)); exact BK154.out) hb); have n4_ := Aside0.mk (below_step (by repeat (first | (with_reducible first | exact HB.out | apply below_alloc | apply pw_below_drewN | apply below_drew1 | refine below_set ?_ GE150.out | refine below_set ?_ GE151.out | refine below_set ?_ GE154.out) | exact HB.out)) hb); clear BK150; clear BK151; clear BK154; clear HB; have HO157 := n0_; have BK150 := n1_; have BK151 := n2_; have BK154 := n3_; have HB := n4_; clear n0_ n1_ n2_ n3_ n4_; (try clear hb); (try clear hb2); (try clear hk); (try clear hi); (try clear ho0); obtain ⟨Ao24, co24, eo24⟩ := Kd.R_slice HO157.out; subst eo24) | ((with_reducible refine gate_callee (f := 40) rfl ?_); refine goesL_ (some 37) rfl rfl Tryd.func40 (by kernel_rfl) rfl #[.slice Ao24 t155.length co24] rfl (by (try simp only [List.map_toArray, List.map_cons, List.map_nil]); first | done | rfl | (simp only [List.length_drop, List.length_take]; rfl)) ?_; (with_reducible refine (arrearsref1_Sum.calls k2 _ _ t155 t158 true _ ?side1 ?side2 A17.out).mono ?_); (case side1 => repeat (first | exact (Kd.R_reads' HO157.out).2.2 | (with_reducible refine Kd.C_alloc ?_ _) | (with_reducible refine Kd.C_drewN ?_ _) | (with_reducible refine Kd.C_drew ?_))); (case side2 => exact (Kd.R_reads' HO157.out).2.1); rintro e w' ⟨rfl, ⟨nd, rfl⟩⟩; refine ⟨_, rfl, ?_⟩; (try (rw [drewN_self w23]; generalize hq_ : World.drewN w23 _ = w23; have n0_ : Aside0 (Kd.R (Kd.int .i64) 2 w23 w.heap.size (fun _ => True) (.slice Ao24 t155.length co24) t155) := ⟨by rw [← hq_]; exact (by (with_reducible repeat (first | apply Kd.R_alloc | apply Kd.R_drewN | apply Kd.R_drew)); exact HO157.out)⟩; have n1_ : Aside0 (w23.heap[gb150]? = some (.cells #[.int .i64 a0_0, .int .i64 a0_1, .int .i64 a0_2, .int .i64 a0_3, .int .i64 a0_4, .int .i64 a0_5, .int .i64 a0_6, .int .i64 a0_7, .int .i64 a0_8, .int .i64 a0_9, .int .i64 a0_10, .int .i64 a0_11] 24 (0, 0))) := ⟨by rw [← hq_]; exact (by (with_reducible repeat (first | refine blk_drewN ?_ _ | refine blk_drew ?_ | refine blk_alloc ?_ _)); exact BK150.out)⟩; have n2_ : Aside0 (w23.heap[gb151]? = some (.cells #[.int .i64 x152000_2, .int .i64 x152001_2, .int .i64 x152002_2, .int .i64 x152003_2, .int .i64 x152004_2, .int .i64 x152005_2, .int .i64 x152006_2, .int .i64 x152007_2, .int .i64 x152008_2, .int .i64 x152009_2, .int .i64 x152010_2, .int .i64 x152011_2] 24 (0, 0))) := ⟨by rw [← hq_]; exact (by (with_reducible repeat (first | refine blk_drewN ?_ _ | refine blk_drew ?_ | refine blk_alloc ?_ _)); exact BK151.out)⟩; have n3_ : Aside0 (w23.heap[gb154]? = some (.cells #[.int .i64 x155000_2, .int .i64 x155001_2, .int .i64 x155002_2, .int .i64 x155003_2, .int .i64 x155004_2, .int .i64 x155005_2, .int .i64 x155006_2, .int .i64 x155007_2, .int .i64 x155008_2, .int .i64 x155009_2, .int .i64 x155010_2, .int .i64 x155011_2] 24 (0, 0))) := ⟨by rw [← hq_]; exact (by (with_reducible repeat (first | refine blk_drewN ?_ _ | refine blk_drew ?_ | refine blk_alloc ?_ _)); exact BK154.out)⟩; have n4_ : Aside0 (Below w.heap.size w w23) := ⟨by rw [← hq_]; exact (by repeat (first | (with_reducible first | exact HB.out | apply below_alloc | apply pw_below_drewN | apply below_drew1 | refine below_set ?_ GE150.out | refine below_set ?_ GE151.out | refine below_set ?_ GE154.out) | exact HB.out))⟩; clear HO157 BK150 BK151 BK154 HB hq_; have HO157 := n0_; have BK150 := n1_; have BK151 := n2_; have BK154 := n3_; have HB := n4_; clear n0_ n1_ n2_ n3_ n4_)); have hcz25_0 : w23.cell? ⟨gb150, 0, none⟩ = some (.int .i64 a0_0) := (blk_cell BK150.out 0).trans rfl; have hcz25_1 : w23.cell? ⟨gb150, 1, none⟩ = some (.int .i64 a0_1) := (blk_cell BK150.out 1).trans rfl; have hcz25_2 : w23.cell? ⟨gb150, 2, none⟩ = some (.int .i64 a0_2) := (blk_cell BK150.out 2).trans rfl; have hcz25_3 : w23.cell? ⟨gb150, 3, none⟩ = some (.int .i64 a0_3) := (blk_cell BK150.out 3).trans rfl; have hcz25_4 : w23.cell? ⟨gb150, 4, none⟩ = some (.int .i64 a0_4) := (blk_cell BK150.out 4).trans rfl; have hcz25_5 : w23.cell? ⟨gb150, 5, none⟩ = some (.int .i64 a0_5) := (blk_cell BK150.out 5).trans rfl; have hcz25_6 : w23.cell? ⟨gb150, 6, none⟩ = some (.int .i64 a0_6) := (blk_cell BK150.out 6).trans rfl; have hcz25_7 : w23.cell? ⟨gb150, 7, none⟩ = some (.int .i64 a0_7) := (blk_cell BK150.out 7).trans rfl; have hcz25_8 : w23.cell? ⟨gb150, 8, none⟩ = some (.int .i64 a0_8) := (blk_cell BK150.out 8).trans rfl; have hcz25_9 : w23.cell? ⟨gb150, 9, none⟩ = some (.int .i64 a0_9) := (blk_cell BK150.out 9).trans rfl; have hcz25_10 : w23.cell? ⟨gb150, 10, none⟩ = some (.int .i64 a0_10) := (blk_cell BK150.out 10).trans rfl; have hcz25_11 : w23.cell? ⟨gb150, 11, none⟩ = some (.int .i64 a0_11) := (blk_cell BK150.out 11).trans rfl; have hfz25_0 := blk_frozen BK150.out 0; have hfz25_1 := blk_frozen BK150.out 1; have hfz25_2 := blk_frozen BK150.out 2; have hfz25_3 := blk_frozen BK150.out 3; have hfz25_4 := blk_frozen BK150.out 4; have hfz25_5 := blk_frozen BK150.out 5; have hfz25_6 := blk_frozen BK150.out 6; have hfz25_7 := blk_frozen BK150.out 7; have hfz25_8 := blk_frozen BK150.out 8; have hfz25_9 := blk_frozen BK150.out 9; have hfz25_10 := blk_frozen BK150.out 10; have hfz25_11 := blk_frozen BK150.out 11; have hnb26 := NB151_154.out; have hnc26 := NB154_151.out; have hcz27_0 : w23.cell? ⟨gb151, 0, none⟩ = some (.int .i64 x152000_2) := (blk_cell BK151.out 0).trans rfl; have hcz27_1 : w23.cell? ⟨gb151, 1, none⟩ = some (.int .i64 x152001_2) := (blk_cell BK151.out 1).trans rfl; have hcz27_2 : w23.cell? ⟨gb151, 2, none⟩ = some (.int .i64 x152002_2) := (blk_cell BK151.out 2).trans rfl; have hcz27_3 : w23.cell? ⟨gb151, 3, none⟩ = some (.int .i64 x152003_2) := (blk_cell BK151.out 3).trans rfl; have hcz27_4 : w23.cell? ⟨gb151, 4, none⟩ = some (.int .i64 x152004_2) := (blk_cell BK151.out 4).trans rfl; have hcz27_5 : w23.cell? ⟨gb151, 5, none⟩ = some (.int .i64 x152005_2) := (blk_cell BK151.out 5).trans rfl; have hcz27_6 : w23.cell? ⟨gb151, 6, none⟩ = some (.int .i64 x152006_2) := (blk_cell BK151.out 6).trans rfl; have hcz27_7 : w23.cell? ⟨gb151, 7, none⟩ = some (.int .i64 x152007_2) := (blk_cell BK151.out 7).trans rfl; have hcz27_8 : w23.cell? ⟨gb151, 8, none⟩ = some (.int .i64 x152008_2) := (blk_cell BK151.out 8).trans rfl; have hcz27_9 : w23.cell? ⟨gb151, 9, none⟩ = some (.int .i64 x152009_2) := (blk_cell BK151.out 9).trans rfl; have hcz27_10 : w23.cell? ⟨gb151, 10, none⟩ = some (.int .i64 x152010_2) := (blk_cell BK151.out 10).trans rfl; have hcz27_11 : w23.cell? ⟨gb151, 11, none⟩ = some (.int .i64 x152011_2) := (blk_cell BK151.out 11).trans rfl; have hfz27_0 := blk_frozen BK151.out 0; have hfz27_1 := blk_frozen BK151.out 1; have hfz27_2 := blk_frozen BK151.out 2; have hfz27_3 := blk_frozen BK151.out 3; have hfz27_4 := blk_frozen BK151.out 4; have hfz27_5 := blk_frozen BK151.out 5; have hfz27_6 := blk_frozen BK151.out 6; have hfz27_7 := blk_frozen BK151.out 7; have hfz27_8 := blk_frozen BK151.out 8; have hfz27_9 := blk_frozen BK151.out 9; have hfz27_10 := blk_frozen BK151.out 10; have hfz27_11 := blk_frozen BK151.out 11))
                  refine bodyPost_ret (results_ct rfl _ _ gb151 24 #[.int .i64 a0_0, .int .i64 a0_1, .int .i64 a0_2, .int .i64 a0_3, .int .i64 a0_4, .int .i64 a0_5, .int .i64 a0_6, .int .i64 a0_7, .int .i64 a0_8, .int .i64 a0_9, .int .i64 a0_10, .int .i64 a0_11] (0, 0) _ rfl (by (with_reducible repeat (first | refine blk_drewN ?_ _ | refine blk_drew ?_ | refine blk_alloc ?_ _)); refine blk_put (cs := #[.int .i64 a0_0, .int .i64 a0_1, .int .i64 a0_2, .int .i64 a0_3, .int .i64 a0_4, .int .i64 a0_5, .int .i64 a0_6, .int .i64 a0_7, .int .i64 a0_8, .int .i64 a0_9, .int .i64 a0_10, .int .i64 x152011_2]) ?_ 11 _ rfl; (with_reducible repeat (first | refine blk_drewN ?_ _ | refine blk_drew ?_ | refine blk_alloc ?_ _)); refine blk_put (cs := #[.int .i64 a0_0, .int .i64 a0_1, .int .i64 a0_2, .int .i64 a0_3, .int .i64 a0_4, .int .i64 a0_5, .int .i64 a0_6, .int .i64 a0_7, .int .i64 a0_8, .int .i64 a0_9, .int .i64 x152010_2, .int .i64 x152011_2]) ?_ 10 _ rfl; (with_reducible repeat (first | refine blk_drewN ?_ _ | refine blk_drew ?_ | refine blk_alloc ?_ _)); refine blk_put (cs := #[.int .i64 a0_0, .int .i64 a0_1, .int .i64 a0_2, .int .i64 a0_3, .int .i64 a0_4, .int .i64 a0_5, .int .i64 a0_6, .int .i64 a0_7, .int .i64 a0_8, .int .i64 x152009_2, .int .i64 x152010_2, .int .i64 x152011_2]) ?_ 9 _ rfl; (with_reducible repeat (first | refine blk_drewN ?_ _ | refine blk_drew ?_ | refine blk_alloc ?_ _)); refine blk_put (cs := #[.int .i64 a0_0, .int .i64 a0_1, .int .i64 a0_2, .int .i64 a0_3, .int .i64 a0_4, .int .i64 a0_5, .int .i64 a0_6, .int .i64 a0_7, .int .i64 x152008_2, .int .i64 x152009_2, .int .i64 x152010_2, .int .i64 x152011_2]) ?_ 8 _ rfl; (with_reducible repeat (first | refine blk_drewN ?_ _ | refine blk_drew ?_ | refine blk_alloc ?_ _)); refine blk_put (cs := #[.int .i64 a0_0, .int .i64 a0_1, .int .i64 a0_2, .int .i64 a0_3, .int .i64 a0_4, .int .i64 a0_5, .int .i64 a0_6, .int .i64 x152007_2, .int .i64 x152008_2, .int .i64 x152009_2, .int .i64 x152010_2, .int .i64 x152011_2]) ?_ 7 _ rfl; (with_reducible repeat (first | refine blk_drewN ?_ _ | refine blk_drew ?_ | refine blk_alloc ?_ _)); refine blk_put (cs := #[.int .i64 a0_0, .int .i64 a0_1, .int .i64 a0_2, .int .i64 a0_3, .int .i64 a0_4, .int .i64 a0_5, .int .i64 x152006_2, .int .i64 x152007_2, .int .i64 x152008_2, .int .i64 x152009_2, .int .i64 x152010_2, .int .i64 x152011_2]) ?_ 6 _ rfl; (with_reducible repeat (first | refine blk_drewN ?_ _ | refine blk_drew ?_ | refine blk_alloc ?_ _)); refine blk_put (cs := #[.int .i64 a0_0, .int .i64 a0_1, .int .i64 a0_2, .int .i64 a0_3, .int .i64 a0_4, .int .i64 x152005_2, .int .i64 x152006_2, .int .i64 x152007_2, .int .i64 x152008_2, .int .i64 x152009_2, .int .i64 x152010_2, .int .i64 x152011_2]) ?_ 5 _ rfl; (with_reducible repeat (first | refine blk_drewN ?_ _ | refine blk_drew ?_ | refine blk_alloc ?_ _)); refine blk_put (cs := #[.int .i64 a0_0, .int .i64 a0_1, .int .i64 a0_2, .int .i64 a0_3, .int .i64 x152004_2, .int .i64 x152005_2, .int .i64 x152006_2, .int .i64 x152007_2, .int .i64 x152008_2, .int .i64 x152009_2, .int .i64 x152010_2, .int .i64 x152011_2]) ?_ 4 _ rfl; (with_reducible repeat (first | refine blk_drewN ?_ _ | refine blk_drew ?_ | refine blk_alloc ?_ _)); refine blk_put (cs := #[.int .i64 a0_0, .int .i64 a0_1, .int .i64 a0_2, .int .i64 x152003_2, .int .i64 x152004_2, .int .i64 x152005_2, .int .i64 x152006_2, .int .i64 x152007_2, .int .i64 x152008_2, .int .i64 x152009_2, .int .i64 x152010_2, .int .i64 x152011_2]) ?_ 3 _ rfl; (with_reducible repeat (first | refine blk_drewN ?_ _ | refine blk_drew ?_ | refine blk_alloc ?_ _)); refine blk_put (cs := #[.int .i64 a0_0, .int .i64 a0_1, .int .i64 x152002_2, .int .i64 x152003_2, .int .i64 x152004_2, .int .i64 x152005_2, .int .i64 x152006_2, .int .i64 x152007_2, .int .i64 x152008_2, .int .i64 x152009_2, .int .i64 x152010_2, .int .i64 x152011_2]) ?_ 2 _ rfl; (with_reducible repeat (first | refine blk_drewN ?_ _ | refine blk_drew ?_ | refine blk_alloc ?_ _)); refine blk_put (cs := #[.int .i64 a0_0, .int .i64 x152001_2, .int .i64 x152002_2, .int .i64 x152003_2, .int .i64 x152004_2, .int .i64 x152005_2, .int .i64 x152006_2, .int .i64 x152007_2, .int .i64 x152008_2, .int .i64 x152009_2, .int .i64 x152010_2, .int .i64 x152011_2]) ?_ 1 _ rfl; (with_reducible repeat (first | refine blk_drewN ?_ _ | refine blk_drew ?_ | refine blk_alloc ?_ _)); refine blk_put (cs := #[.int .i64 x152000_2, .int .i64 x152001_2, .int .i64 x152002_2, .int .i64 x152003_2, .int .i64 x152004_2, .int .i64 x152005_2, .int .i64 x152006_2, .int .i64 x152007_2, .int .i64 x152008_2, .int .i64 x152009_2, .int .i64 x152010_2, .int .i64 x152011_2]) ?_ 0 _ rfl; (with_reducible repeat (first | refine blk_drewN ?_ _ | refine blk_drew ?_ | refine blk_alloc ?_ _)); exact BK151.out) Tryd.underlying24 rfl (by kernel_rfl)) rfl ?_
                  exact ⟨by first | rfl | (simp [errW_none, errW_some] <;> rfl) | (simp [*, errW_none, errW_some] <;> rfl), by repeat (first | (with_reducible first | exact HB.out | apply below_alloc | apply pw_below_drewN | apply below_drew1 | refine below_set ?_ GE150.out | refine below_set ?_ GE151.out | refine below_set ?_ GE154.out) | exact HB.out)⟩
                · rw [if_neg c19] at H
                  have c19b0 : (t158 == (-9223372036854775808)) = false := beq_eq_false_iff_ne.mpr c19
                  have c19b1 : (t158 != (-9223372036854775808)) = true := bne_iff_ne.mpr c19
                  by_cases c28 : 0 ≤ x9_2
                  · rw [if_pos c28] at H
                    have c28b0 : decide (0 ≤ x9_2) = true := decide_eq_true c28
                    clear c28
                    have H' := Aside0.mk H
                    clear H
                    have hnb29 := NB150_151.out
                    have hnc29 := NB151_150.out
                    have hnb30 := NB150_154.out
                    have hnc30 := NB154_150.out
                    have hcz31_0 : wr.cell? ⟨gb150, 0, none⟩ = some (.int .i64 a0_0) := (blk_cell BK150.out 0).trans rfl
                    have hcz31_1 : wr.cell? ⟨gb150, 1, none⟩ = some (.int .i64 a0_1) := (blk_cell BK150.out 1).trans rfl
                    have hcz31_2 : wr.cell? ⟨gb150, 2, none⟩ = some (.int .i64 a0_2) := (blk_cell BK150.out 2).trans rfl
                    have hcz31_3 : wr.cell? ⟨gb150, 3, none⟩ = some (.int .i64 a0_3) := (blk_cell BK150.out 3).trans rfl
                    have hcz31_4 : wr.cell? ⟨gb150, 4, none⟩ = some (.int .i64 a0_4) := (blk_cell BK150.out 4).trans rfl
                    have hcz31_5 : wr.cell? ⟨gb150, 5, none⟩ = some (.int .i64 a0_5) := (blk_cell BK150.out 5).trans rfl
                    have hcz31_6 : wr.cell? ⟨gb150, 6, none⟩ = some (.int .i64 a0_6) := (blk_cell BK150.out 6).trans rfl
                    have hcz31_7 : wr.cell? ⟨gb150, 7, none⟩ = some (.int .i64 a0_7) := (blk_cell BK150.out 7).trans rfl
                    have hcz31_8 : wr.cell? ⟨gb150, 8, none⟩ = some (.int .i64 a0_8) := (blk_cell BK150.out 8).trans rfl
                    have hcz31_9 : wr.cell? ⟨gb150, 9, none⟩ = some (.int .i64 a0_9) := (blk_cell BK150.out 9).trans rfl
                    have hcz31_10 : wr.cell? ⟨gb150, 10, none⟩ = some (.int .i64 a0_10) := (blk_cell BK150.out 10).trans rfl
                    have hcz31_11 : wr.cell? ⟨gb150, 11, none⟩ = some (.int .i64 a0_11) := (blk_cell BK150.out 11).trans rfl
                    have hfz31_0 := blk_frozen BK150.out 0
                    have hfz31_1 := blk_frozen BK150.out 1
                    have hfz31_2 := blk_frozen BK150.out 2
                    have hfz31_3 := blk_frozen BK150.out 3
                    have hfz31_4 := blk_frozen BK150.out 4
                    have hfz31_5 := blk_frozen BK150.out 5
                    have hfz31_6 := blk_frozen BK150.out 6
                    have hfz31_7 := blk_frozen BK150.out 7
                    have hfz31_8 := blk_frozen BK150.out 8
                    have hfz31_9 := blk_frozen BK150.out 9
                    have hfz31_10 := blk_frozen BK150.out 10
                    have hfz31_11 := blk_frozen BK150.out 11
                    go_wp2_with (first | ((with_reducible refine gate_callee (f := 41) rfl ?_); refine goesL_ (some 36) rfl rfl Tryd.func41 (by kernel_rfl) rfl #[.agg #[.int .i64 a0_0, .int .i64 a0_1, .int .i64 a0_2, .int .i64 a0_3, .int .i64 a0_4, .int .i64 a0_5, .int .i64 a0_6, .int .i64 a0_7, .int .i64 a0_8, .int .i64 a0_9, .int .i64 a0_10, .int .i64 a0_11], .slice A1 l1.length c1, .int .i64 x9_2] rfl (by (try simp only [List.map_toArray, List.map_cons, List.map_nil]); first | done | rfl | (simp only [List.length_drop, List.length_take]; rfl)) ?_; (with_reducible refine (arrearsref8_moves.calls k2 a0_0 a0_1 a0_2 a0_3 a0_4 a0_5 a0_6 a0_7 a0_8 a0_9 a0_10 a0_11 _ _ l1 x9_2 t155 _ ?side1 ?side2 A16.out).mono ?_); (case side1 => repeat (first | exact (Kd.C_below HR1.out HB.out) | (with_reducible refine Kd.C_alloc ?_ _) | (with_reducible refine Kd.C_drewN ?_ _) | (with_reducible refine Kd.C_drew ?_))); (case side2 => exact HC1.out); rintro e w32 ⟨v156, rfl, ho0, hb⟩; refine ⟨_, rfl, ?_⟩; have n0_ := Aside0.mk (Kd.R_lower ho0 (below_size (by repeat (first | (with_reducible first | exact HB.out | apply below_alloc | apply pw_below_drewN | apply below_drew1 | refine below_set ?_ GE150.out | refine below_set ?_ GE151.out | refine below_set ?_ GE154.out) | exact HB.out)))); have n1_ := Aside0.mk (blk_below (g := gb150) (o := .cells #[.int .i64 a0_0, .int .i64 a0_1, .int .i64 a0_2, .int .i64 a0_3, .int .i64 a0_4, .int .i64 a0_5, .int .i64 a0_6, .int .i64 a0_7, .int .i64 a0_8, .int .i64 a0_9, .int .i64 a0_10, .int .i64 a0_11] 24 (0, 0)) (by (with_reducible repeat (first | refine blk_drewN ?_ _ | refine blk_drew ?_ | refine blk_alloc ?_ _)); exact BK150.out) hb); have n2_ := Aside0.mk (blk_below (g := gb151) (o := .cells #[.int .i64 x152000_2, .int .i64 x152001_2, .int .i64 x152002_2, .int .i64 x152003_2, .int .i64 x152004_2, .int .i64 x152005_2, .int .i64 x152006_2, .int .i64 x152007_2, .int .i64 x152008_2, .int .i64 x152009_2, .int .i64 x152010_2, .int .i64 x152011_2] 24 (0, 0)) (by (with_reducible repeat (first | refine blk_drewN ?_ _ | refine blk_drew ?_ | refine blk_alloc ?_ _)); exact BK151.out) hb); have n3_ := Aside0.mk (blk_below (g := gb154) (o := .cells #[.int .i64 x155000_2, .int .i64 x155001_2, .int .i64 x155002_2, .int .i64 x155003_2, .int .i64 x155004_2, .int .i64 x155005_2, .int .i64 x155006_2, .int .i64 x155007_2, .int .i64 x155008_2, .int .i64 x155009_2, .int .i64 x155010_2, .int .i64 x155011_2] 24 (0, 0)) (by (with_reducible repeat (first | refine blk_drewN ?_ _ | refine blk_drew ?_ | refine blk_alloc ?_ _)); exact BK154.out) hb); have n4_ := Aside0.mk (below_step (by repeat (first | (with_reducible first | exact HB.out | apply below_alloc | apply pw_below_drewN | apply below_drew1 | refine below_set ?_ GE150.out | refine below_set ?_ GE151.out | refine below_set ?_ GE154.out) | exact HB.out)) hb); clear BK150; clear BK151; clear BK154; clear HB; have HO157 := n0_; have BK150 := n1_; have BK151 := n2_; have BK154 := n3_; have HB := n4_; clear n0_ n1_ n2_ n3_ n4_; (try clear hb); (try clear hb2); (try clear hk); (try clear hi); (try clear ho0); obtain ⟨Ao33, co33, eo33⟩ := Kd.R_slice HO157.out; subst eo33) | ((with_reducible refine gate_callee (f := 40) rfl ?_); refine goesL_ (some 37) rfl rfl Tryd.func40 (by kernel_rfl) rfl #[.slice Ao33 t155.length co33] rfl (by (try simp only [List.map_toArray, List.map_cons, List.map_nil]); first | done | rfl | (simp only [List.length_drop, List.length_take]; rfl)) ?_; (with_reducible refine (arrearsref1_Sum.calls k2 _ _ t155 t158 true _ ?side1 ?side2 A17.out).mono ?_); (case side1 => repeat (first | exact (Kd.R_reads' HO157.out).2.2 | (with_reducible refine Kd.C_alloc ?_ _) | (with_reducible refine Kd.C_drewN ?_ _) | (with_reducible refine Kd.C_drew ?_))); (case side2 => exact (Kd.R_reads' HO157.out).2.1); rintro e w' ⟨rfl, ⟨nd, rfl⟩⟩; refine ⟨_, rfl, ?_⟩; (try (rw [drewN_self w32]; generalize hq_ : World.drewN w32 _ = w32; have n0_ : Aside0 (Kd.R (Kd.int .i64) 2 w32 w.heap.size (fun _ => True) (.slice Ao33 t155.length co33) t155) := ⟨by rw [← hq_]; exact (by (with_reducible repeat (first | apply Kd.R_alloc | apply Kd.R_drewN | apply Kd.R_drew)); exact HO157.out)⟩; have n1_ : Aside0 (w32.heap[gb150]? = some (.cells #[.int .i64 a0_0, .int .i64 a0_1, .int .i64 a0_2, .int .i64 a0_3, .int .i64 a0_4, .int .i64 a0_5, .int .i64 a0_6, .int .i64 a0_7, .int .i64 a0_8, .int .i64 a0_9, .int .i64 a0_10, .int .i64 a0_11] 24 (0, 0))) := ⟨by rw [← hq_]; exact (by (with_reducible repeat (first | refine blk_drewN ?_ _ | refine blk_drew ?_ | refine blk_alloc ?_ _)); exact BK150.out)⟩; have n2_ : Aside0 (w32.heap[gb151]? = some (.cells #[.int .i64 x152000_2, .int .i64 x152001_2, .int .i64 x152002_2, .int .i64 x152003_2, .int .i64 x152004_2, .int .i64 x152005_2, .int .i64 x152006_2, .int .i64 x152007_2, .int .i64 x152008_2, .int .i64 x152009_2, .int .i64 x152010_2, .int .i64 x152011_2] 24 (0, 0))) := ⟨by rw [← hq_]; exact (by (with_reducible repeat (first | refine blk_drewN ?_ _ | refine blk_drew ?_ | refine blk_alloc ?_ _)); exact BK151.out)⟩; have n3_ : Aside0 (w32.heap[gb154]? = some (.cells #[.int .i64 x155000_2, .int .i64 x155001_2, .int .i64 x155002_2, .int .i64 x155003_2, .int .i64 x155004_2, .int .i64 x155005_2, .int .i64 x155006_2, .int .i64 x155007_2, .int .i64 x155008_2, .int .i64 x155009_2, .int .i64 x155010_2, .int .i64 x155011_2] 24 (0, 0))) := ⟨by rw [← hq_]; exact (by (with_reducible repeat (first | refine blk_drewN ?_ _ | refine blk_drew ?_ | refine blk_alloc ?_ _)); exact BK154.out)⟩; have n4_ : Aside0 (Below w.heap.size w w32) := ⟨by rw [← hq_]; exact (by repeat (first | (with_reducible first | exact HB.out | apply below_alloc | apply pw_below_drewN | apply below_drew1 | refine below_set ?_ GE150.out | refine below_set ?_ GE151.out | refine below_set ?_ GE154.out) | exact HB.out))⟩; clear HO157 BK150 BK151 BK154 HB hq_; have HO157 := n0_; have BK150 := n1_; have BK151 := n2_; have BK154 := n3_; have HB := n4_; clear n0_ n1_ n2_ n3_ n4_)); have hnb34 := NB154_151.out; have hnc34 := NB151_154.out; have p160 : 0 ≤ (x9_2 : Int) := of_decide_eq_true (by first | (with_reducible assumption) | assumption); have q160 : (x9_2 : Int) < 12 := of_decide_eq_true (by first | (with_reducible assumption) | assumption); have P160 := Aside0.mk p160; have Q160 := Aside0.mk q160; have hs160 : w32.cell? ⟨gb154, (x9_2 : Int).toNat, none⟩ = some (.int .i64 (selI [x155000_2, x155001_2, x155002_2, x155003_2, x155004_2, x155005_2, x155006_2, x155007_2, x155008_2, x155009_2, x155010_2, x155011_2] x9_2)) := (blk_cell BK154.out ((x9_2 : Int).toNat)).trans (selI_at .i64 [x155000_2, x155001_2, x155002_2, x155003_2, x155004_2, x155005_2, x155006_2, x155007_2, x155008_2, x155009_2, x155010_2, x155011_2] x9_2 p160 q160); have hfs160 := blk_frozen BK154.out ((x9_2 : Int).toNat); have t160 := eq_true (show (x9_2 : Int).toNat < 12 by omega); replace p160 := eq_true p160; replace q160 := eq_true q160))
                    go_roundg k2
                    case measure => have := HK1.out; have := HK2.out; omega
                    case rel => exact ⟨(wrap64 (x9_2 + 1)), (x152000_2), (x152001_2), (x152002_2), (x152003_2), (x152004_2), (x152005_2), (x152006_2), (x152007_2), (x152008_2), (x152009_2), (x152010_2), (x152011_2), (putI x9_2 0 t158 x155000_2), (putI x9_2 1 t158 x155001_2), (putI x9_2 2 t158 x155002_2), (putI x9_2 3 t158 x155003_2), (putI x9_2 4 t158 x155004_2), (putI x9_2 5 t158 x155005_2), (putI x9_2 6 t158 x155006_2), (putI x9_2 7 t158 x155007_2), (putI x9_2 8 t158 x155008_2), (putI x9_2 9 t158 x155009_2), (putI x9_2 10 t158 x155010_2), (putI x9_2 11 t158 x155011_2), (by first | rfl | (simp; done) | (simp [*]; done)), H', ⟨by have := HK1.out; have := HK2.out; omega⟩, ⟨by (with_reducible repeat (first | refine blk_drewN ?_ _ | refine blk_drew ?_ | refine blk_alloc ?_ _)); refine blk_far ?_ NB150_154.out _; (with_reducible repeat (first | refine blk_drewN ?_ _ | refine blk_drew ?_ | refine blk_alloc ?_ _)); exact BK150.out⟩, ⟨by (with_reducible repeat (first | refine blk_drewN ?_ _ | refine blk_drew ?_ | refine blk_alloc ?_ _)); refine blk_far ?_ NB151_154.out _; (with_reducible repeat (first | refine blk_drewN ?_ _ | refine blk_drew ?_ | refine blk_alloc ?_ _)); exact BK151.out⟩, ⟨by (with_reducible repeat (first | refine blk_drewN ?_ _ | refine blk_drew ?_ | refine blk_alloc ?_ _)); refine blk_put (cs := #[.int .i64 x155000_2, .int .i64 x155001_2, .int .i64 x155002_2, .int .i64 x155003_2, .int .i64 x155004_2, .int .i64 x155005_2, .int .i64 x155006_2, .int .i64 x155007_2, .int .i64 x155008_2, .int .i64 x155009_2, .int .i64 x155010_2, .int .i64 x155011_2]) ?_ (x9_2 : Int).toNat _ (putI_row .i64 [x155000_2, x155001_2, x155002_2, x155003_2, x155004_2, x155005_2, x155006_2, x155007_2, x155008_2, x155009_2, x155010_2, x155011_2] x9_2 t158 P160.out Q160.out); (with_reducible repeat (first | refine blk_drewN ?_ _ | refine blk_drew ?_ | refine blk_alloc ?_ _)); exact BK154.out⟩, ⟨by repeat (first | (with_reducible first | exact HB.out | apply below_alloc | apply pw_below_drewN | apply below_drew1 | refine below_set ?_ GE150.out | refine below_set ?_ GE151.out | refine below_set ?_ GE154.out) | exact HB.out)⟩⟩
                  · rw [if_neg c28] at H
                    exact absurd H (by simp)
              · replace c18 := Bool.eq_false_iff.mpr c18
                subst c18
                have H1 : (some (a0_0, a0_1, a0_2, a0_3, a0_4, a0_5, a0_6, a0_7, a0_8, a0_9, a0_10, a0_11, 3)) = some (r1, r2, r3, r4, r5, r6, r7, r8, r9, r10, r11, r12, r13) := by rw [if_neg (show ¬ (false = true) by decide)] at H; exact H
                clear H
                have H := H1
                clear H1
                simp only [Option.some.injEq, Prod.mk.injEq] at H
                obtain ⟨rfl, rfl, rfl, rfl, rfl, rfl, rfl, rfl, rfl, rfl, rfl, rfl, rfl⟩ := H
                have hnb35 := NB150_151.out
                have hnc35 := NB151_150.out
                have hnb36 := NB150_154.out
                have hnc36 := NB154_150.out
                have hcz37_0 : wr.cell? ⟨gb150, 0, none⟩ = some (.int .i64 a0_0) := (blk_cell BK150.out 0).trans rfl
                have hcz37_1 : wr.cell? ⟨gb150, 1, none⟩ = some (.int .i64 a0_1) := (blk_cell BK150.out 1).trans rfl
                have hcz37_2 : wr.cell? ⟨gb150, 2, none⟩ = some (.int .i64 a0_2) := (blk_cell BK150.out 2).trans rfl
                have hcz37_3 : wr.cell? ⟨gb150, 3, none⟩ = some (.int .i64 a0_3) := (blk_cell BK150.out 3).trans rfl
                have hcz37_4 : wr.cell? ⟨gb150, 4, none⟩ = some (.int .i64 a0_4) := (blk_cell BK150.out 4).trans rfl
                have hcz37_5 : wr.cell? ⟨gb150, 5, none⟩ = some (.int .i64 a0_5) := (blk_cell BK150.out 5).trans rfl
                have hcz37_6 : wr.cell? ⟨gb150, 6, none⟩ = some (.int .i64 a0_6) := (blk_cell BK150.out 6).trans rfl
                have hcz37_7 : wr.cell? ⟨gb150, 7, none⟩ = some (.int .i64 a0_7) := (blk_cell BK150.out 7).trans rfl
                have hcz37_8 : wr.cell? ⟨gb150, 8, none⟩ = some (.int .i64 a0_8) := (blk_cell BK150.out 8).trans rfl
                have hcz37_9 : wr.cell? ⟨gb150, 9, none⟩ = some (.int .i64 a0_9) := (blk_cell BK150.out 9).trans rfl
                have hcz37_10 : wr.cell? ⟨gb150, 10, none⟩ = some (.int .i64 a0_10) := (blk_cell BK150.out 10).trans rfl
                have hcz37_11 : wr.cell? ⟨gb150, 11, none⟩ = some (.int .i64 a0_11) := (blk_cell BK150.out 11).trans rfl
                have hfz37_0 := blk_frozen BK150.out 0
                have hfz37_1 := blk_frozen BK150.out 1
                have hfz37_2 := blk_frozen BK150.out 2
                have hfz37_3 := blk_frozen BK150.out 3
                have hfz37_4 := blk_frozen BK150.out 4
                have hfz37_5 := blk_frozen BK150.out 5
                have hfz37_6 := blk_frozen BK150.out 6
                have hfz37_7 := blk_frozen BK150.out 7
                have hfz37_8 := blk_frozen BK150.out 8
                have hfz37_9 := blk_frozen BK150.out 9
                have hfz37_10 := blk_frozen BK150.out 10
                have hfz37_11 := blk_frozen BK150.out 11
                go_wp2_with (first | ((with_reducible refine gate_callee (f := 41) rfl ?_); refine goesL_ (some 36) rfl rfl Tryd.func41 (by kernel_rfl) rfl #[.agg #[.int .i64 a0_0, .int .i64 a0_1, .int .i64 a0_2, .int .i64 a0_3, .int .i64 a0_4, .int .i64 a0_5, .int .i64 a0_6, .int .i64 a0_7, .int .i64 a0_8, .int .i64 a0_9, .int .i64 a0_10, .int .i64 a0_11], .slice A1 l1.length c1, .int .i64 x9_2] rfl (by (try simp only [List.map_toArray, List.map_cons, List.map_nil]); first | done | rfl | (simp only [List.length_drop, List.length_take]; rfl)) ?_; (with_reducible refine (arrearsref8_moves.calls k2 a0_0 a0_1 a0_2 a0_3 a0_4 a0_5 a0_6 a0_7 a0_8 a0_9 a0_10 a0_11 _ _ l1 x9_2 t155 _ ?side1 ?side2 A16.out).mono ?_); (case side1 => repeat (first | exact (Kd.C_below HR1.out HB.out) | (with_reducible refine Kd.C_alloc ?_ _) | (with_reducible refine Kd.C_drewN ?_ _) | (with_reducible refine Kd.C_drew ?_))); (case side2 => exact HC1.out); rintro e w38 ⟨v156, rfl, ho0, hb⟩; refine ⟨_, rfl, ?_⟩; have n0_ := Aside0.mk (Kd.R_lower ho0 (below_size (by repeat (first | (with_reducible first | exact HB.out | apply below_alloc | apply pw_below_drewN | apply below_drew1 | refine below_set ?_ GE150.out | refine below_set ?_ GE151.out | refine below_set ?_ GE154.out) | exact HB.out)))); have n1_ := Aside0.mk (blk_below (g := gb150) (o := .cells #[.int .i64 a0_0, .int .i64 a0_1, .int .i64 a0_2, .int .i64 a0_3, .int .i64 a0_4, .int .i64 a0_5, .int .i64 a0_6, .int .i64 a0_7, .int .i64 a0_8, .int .i64 a0_9, .int .i64 a0_10, .int .i64 a0_11] 24 (0, 0)) (by (with_reducible repeat (first | refine blk_drewN ?_ _ | refine blk_drew ?_ | refine blk_alloc ?_ _)); exact BK150.out) hb); have n2_ := Aside0.mk (blk_below (g := gb151) (o := .cells #[.int .i64 x152000_2, .int .i64 x152001_2, .int .i64 x152002_2, .int .i64 x152003_2, .int .i64 x152004_2, .int .i64 x152005_2, .int .i64 x152006_2, .int .i64 x152007_2, .int .i64 x152008_2, .int .i64 x152009_2, .int .i64 x152010_2, .int .i64 x152011_2] 24 (0, 0)) (by (with_reducible repeat (first | refine blk_drewN ?_ _ | refine blk_drew ?_ | refine blk_alloc ?_ _)); exact BK151.out) hb); have n3_ := Aside0.mk (blk_below (g := gb154) (o := .cells #[.int .i64 x155000_2, .int .i64 x155001_2, .int .i64 x155002_2, .int .i64 x155003_2, .int .i64 x155004_2, .int .i64 x155005_2, .int .i64 x155006_2, .int .i64 x155007_2, .int .i64 x155008_2, .int .i64 x155009_2, .int .i64 x155010_2, .int .i64 x155011_2] 24 (0, 0)) (by (with_reducible repeat (first | refine blk_drewN ?_ _ | refine blk_drew ?_ | refine blk_alloc ?_ _)); exact BK154.out) hb); have n4_ := Aside0.mk (below_step (by repeat (first | (with_reducible first | exact HB.out | apply below_alloc | apply pw_below_drewN | apply below_drew1 | refine below_set ?_ GE150.out | refine below_set ?_ GE151.out | refine below_set ?_ GE154.out) | exact HB.out)) hb); clear BK150; clear BK151; clear BK154; clear HB; have HO157 := n0_; have BK150 := n1_; have BK151 := n2_; have BK154 := n3_; have HB := n4_; clear n0_ n1_ n2_ n3_ n4_; (try clear hb); (try clear hb2); (try clear hk); (try clear hi); (try clear ho0); obtain ⟨Ao39, co39, eo39⟩ := Kd.R_slice HO157.out; subst eo39) | ((with_reducible refine gate_callee (f := 40) rfl ?_); refine goesL_ (some 37) rfl rfl Tryd.func40 (by kernel_rfl) rfl #[.slice Ao39 t155.length co39] rfl (by (try simp only [List.map_toArray, List.map_cons, List.map_nil]); first | done | rfl | (simp only [List.length_drop, List.length_take]; rfl)) ?_; (with_reducible refine (arrearsref1_Sum.calls k2 _ _ t155 t158 false _ ?side1 ?side2 A17.out).mono ?_); (case side1 => repeat (first | exact (Kd.R_reads' HO157.out).2.2 | (with_reducible refine Kd.C_alloc ?_ _) | (with_reducible refine Kd.C_drewN ?_ _) | (with_reducible refine Kd.C_drew ?_))); (case side2 => exact (Kd.R_reads' HO157.out).2.1); rintro e w' ⟨rfl, ⟨nd, rfl⟩⟩; refine ⟨_, rfl, ?_⟩; (try (rw [drewN_self w38]; generalize hq_ : World.drewN w38 _ = w38; have n0_ : Aside0 (Kd.R (Kd.int .i64) 2 w38 w.heap.size (fun _ => True) (.slice Ao39 t155.length co39) t155) := ⟨by rw [← hq_]; exact (by (with_reducible repeat (first | apply Kd.R_alloc | apply Kd.R_drewN | apply Kd.R_drew)); exact HO157.out)⟩; have n1_ : Aside0 (w38.heap[gb150]? = some (.cells #[.int .i64 a0_0, .int .i64 a0_1, .int .i64 a0_2, .int .i64 a0_3, .int .i64 a0_4, .int .i64 a0_5, .int .i64 a0_6, .int .i64 a0_7, .int .i64 a0_8, .int .i64 a0_9, .int .i64 a0_10, .int .i64 a0_11] 24 (0, 0))) := ⟨by rw [← hq_]; exact (by (with_reducible repeat (first | refine blk_drewN ?_ _ | refine blk_drew ?_ | refine blk_alloc ?_ _)); exact BK150.out)⟩; have n2_ : Aside0 (w38.heap[gb151]? = some (.cells #[.int .i64 x152000_2, .int .i64 x152001_2, .int .i64 x152002_2, .int .i64 x152003_2, .int .i64 x152004_2, .int .i64 x152005_2, .int .i64 x152006_2, .int .i64 x152007_2, .int .i64 x152008_2, .int .i64 x152009_2, .int .i64 x152010_2, .int .i64 x152011_2] 24 (0, 0))) := ⟨by rw [← hq_]; exact (by (with_reducible repeat (first | refine blk_drewN ?_ _ | refine blk_drew ?_ | refine blk_alloc ?_ _)); exact BK151.out)⟩; have n3_ : Aside0 (w38.heap[gb154]? = some (.cells #[.int .i64 x155000_2, .int .i64 x155001_2, .int .i64 x155002_2, .int .i64 x155003_2, .int .i64 x155004_2, .int .i64 x155005_2, .int .i64 x155006_2, .int .i64 x155007_2, .int .i64 x155008_2, .int .i64 x155009_2, .int .i64 x155010_2, .int .i64 x155011_2] 24 (0, 0))) := ⟨by rw [← hq_]; exact (by (with_reducible repeat (first | refine blk_drewN ?_ _ | refine blk_drew ?_ | refine blk_alloc ?_ _)); exact BK154.out)⟩; have n4_ : Aside0 (Below w.heap.size w w38) := ⟨by rw [← hq_]; exact (by repeat (first | (with_reducible first | exact HB.out | apply below_alloc | apply pw_below_drewN | apply below_drew1 | refine below_set ?_ GE150.out | refine below_set ?_ GE151.out | refine below_set ?_ GE154.out) | exact HB.out))⟩; clear HO157 BK150 BK151 BK154 HB hq_; have HO157 := n0_; have BK150 := n1_; have BK151 := n2_; have BK154 := n3_; have HB := n4_; clear n0_ n1_ n2_ n3_ n4_)); have hcz40_0 : w38.cell? ⟨gb150, 0, none⟩ = some (.int .i64 a0_0) := (blk_cell BK150.out 0).trans rfl; have hcz40_1 : w38.cell? ⟨gb150, 1, none⟩ = some (.int .i64 a0_1) := (blk_cell BK150.out 1).trans rfl; have hcz40_2 : w38.cell? ⟨gb150, 2, none⟩ = some (.int .i64 a0_2) := (blk_cell BK150.out 2).trans rfl; have hcz40_3 : w38.cell? ⟨gb150, 3, none⟩ = some (.int .i64 a0_3) := (blk_cell BK150.out 3).trans rfl; have hcz40_4 : w38.cell? ⟨gb150, 4, none⟩ = some (.int .i64 a0_4) := (blk_cell BK150.out 4).trans rfl; have hcz40_5 : w38.cell? ⟨gb150, 5, none⟩ = some (.int .i64 a0_5) := (blk_cell BK150.out 5).trans rfl; have hcz40_6 : w38.cell? ⟨gb150, 6, none⟩ = some (.int .i64 a0_6) := (blk_cell BK150.out 6).trans rfl; have hcz40_7 : w38.cell? ⟨gb150, 7, none⟩ = some (.int .i64 a0_7) := (blk_cell BK150.out 7).trans rfl; have hcz40_8 : w38.cell? ⟨gb150, 8, none⟩ = some (.int .i64 a0_8) := (blk_cell BK150.out 8).trans rfl; have hcz40_9 : w38.cell? ⟨gb150, 9, none⟩ = some (.int .i64 a0_9) := (blk_cell BK150.out 9).trans rfl; have hcz40_10 : w38.cell? ⟨gb150, 10, none⟩ = some (.int .i64 a0_10) := (blk_cell BK150.out 10).trans rfl; have hcz40_11 : w38.cell? ⟨gb150, 11, none⟩ = some (.int .i64 a0_11) := (blk_cell BK150.out 11).trans rfl; have hfz40_0 := blk_frozen BK150.out 0; have hfz40_1 := blk_frozen BK150.out 1; have hfz40_2 := blk_frozen BK150.out 2; have hfz40_3 := blk_frozen BK150.out 3; have hfz40_4 := blk_frozen BK150.out 4; have hfz40_5 := blk_frozen BK150.out 5; have hfz40_6 := blk_frozen BK150.out 6; have hfz40_7 := blk_frozen BK150.out 7; have hfz40_8 := blk_frozen BK150.out 8; have hfz40_9 := blk_frozen BK150.out 9; have hfz40_10 := blk_frozen BK150.out 10; have hfz40_11 := blk_frozen BK150.out 11; have hnb41 := NB151_154.out; have hnc41 := NB154_151.out; have hcz42_0 : w38.cell? ⟨gb151, 0, none⟩ = some (.int .i64 x152000_2) := (blk_cell BK151.out 0).trans rfl; have hcz42_1 : w38.cell? ⟨gb151, 1, none⟩ = some (.int .i64 x152001_2) := (blk_cell BK151.out 1).trans rfl; have hcz42_2 : w38.cell? ⟨gb151, 2, none⟩ = some (.int .i64 x152002_2) := (blk_cell BK151.out 2).trans rfl; have hcz42_3 : w38.cell? ⟨gb151, 3, none⟩ = some (.int .i64 x152003_2) := (blk_cell BK151.out 3).trans rfl; have hcz42_4 : w38.cell? ⟨gb151, 4, none⟩ = some (.int .i64 x152004_2) := (blk_cell BK151.out 4).trans rfl; have hcz42_5 : w38.cell? ⟨gb151, 5, none⟩ = some (.int .i64 x152005_2) := (blk_cell BK151.out 5).trans rfl; have hcz42_6 : w38.cell? ⟨gb151, 6, none⟩ = some (.int .i64 x152006_2) := (blk_cell BK151.out 6).trans rfl; have hcz42_7 : w38.cell? ⟨gb151, 7, none⟩ = some (.int .i64 x152007_2) := (blk_cell BK151.out 7).trans rfl; have hcz42_8 : w38.cell? ⟨gb151, 8, none⟩ = some (.int .i64 x152008_2) := (blk_cell BK151.out 8).trans rfl; have hcz42_9 : w38.cell? ⟨gb151, 9, none⟩ = some (.int .i64 x152009_2) := (blk_cell BK151.out 9).trans rfl; have hcz42_10 : w38.cell? ⟨gb151, 10, none⟩ = some (.int .i64 x152010_2) := (blk_cell BK151.out 10).trans rfl; have hcz42_11 : w38.cell? ⟨gb151, 11, none⟩ = some (.int .i64 x152011_2) := (blk_cell BK151.out 11).trans rfl; have hfz42_0 := blk_frozen BK151.out 0; have hfz42_1 := blk_frozen BK151.out 1; have hfz42_2 := blk_frozen BK151.out 2; have hfz42_3 := blk_frozen BK151.out 3; have hfz42_4 := blk_frozen BK151.out 4; have hfz42_5 := blk_frozen BK151.out 5; have hfz42_6 := blk_frozen BK151.out 6; have hfz42_7 := blk_frozen BK151.out 7; have hfz42_8 := blk_frozen BK151.out 8; have hfz42_9 := blk_frozen BK151.out 9; have hfz42_10 := blk_frozen BK151.out 10; have hfz42_11 := blk_frozen BK151.out 11))
                refine bodyPost_ret (results_ct rfl _ _ gb151 24 #[.int .i64 a0_0, .int .i64 a0_1, .int .i64 a0_2, .int .i64 a0_3, .int .i64 a0_4, .int .i64 a0_5, .int .i64 a0_6, .int .i64 a0_7, .int .i64 a0_8, .int .i64 a0_9, .int .i64 a0_10, .int .i64 a0_11] (0, 0) _ rfl (by (with_reducible repeat (first | refine blk_drewN ?_ _ | refine blk_drew ?_ | refine blk_alloc ?_ _)); refine blk_put (cs := #[.int .i64 a0_0, .int .i64 a0_1, .int .i64 a0_2, .int .i64 a0_3, .int .i64 a0_4, .int .i64 a0_5, .int .i64 a0_6, .int .i64 a0_7, .int .i64 a0_8, .int .i64 a0_9, .int .i64 a0_10, .int .i64 x152011_2]) ?_ 11 _ rfl; (with_reducible repeat (first | refine blk_drewN ?_ _ | refine blk_drew ?_ | refine blk_alloc ?_ _)); refine blk_put (cs := #[.int .i64 a0_0, .int .i64 a0_1, .int .i64 a0_2, .int .i64 a0_3, .int .i64 a0_4, .int .i64 a0_5, .int .i64 a0_6, .int .i64 a0_7, .int .i64 a0_8, .int .i64 a0_9, .int .i64 x152010_2, .int .i64 x152011_2]) ?_ 10 _ rfl; (with_reducible repeat (first | refine blk_drewN ?_ _ | refine blk_drew ?_ | refine blk_alloc ?_ _)); refine blk_put (cs := #[.int .i64 a0_0, .int .i64 a0_1, .int .i64 a0_2, .int .i64 a0_3, .int .i64 a0_4, .int .i64 a0_5, .int .i64 a0_6, .int .i64 a0_7, .int .i64 a0_8, .int .i64 x152009_2, .int .i64 x152010_2, .int .i64 x152011_2]) ?_ 9 _ rfl; (with_reducible repeat (first | refine blk_drewN ?_ _ | refine blk_drew ?_ | refine blk_alloc ?_ _)); refine blk_put (cs := #[.int .i64 a0_0, .int .i64 a0_1, .int .i64 a0_2, .int .i64 a0_3, .int .i64 a0_4, .int .i64 a0_5, .int .i64 a0_6, .int .i64 a0_7, .int .i64 x152008_2, .int .i64 x152009_2, .int .i64 x152010_2, .int .i64 x152011_2]) ?_ 8 _ rfl; (with_reducible repeat (first | refine blk_drewN ?_ _ | refine blk_drew ?_ | refine blk_alloc ?_ _)); refine blk_put (cs := #[.int .i64 a0_0, .int .i64 a0_1, .int .i64 a0_2, .int .i64 a0_3, .int .i64 a0_4, .int .i64 a0_5, .int .i64 a0_6, .int .i64 x152007_2, .int .i64 x152008_2, .int .i64 x152009_2, .int .i64 x152010_2, .int .i64 x152011_2]) ?_ 7 _ rfl; (with_reducible repeat (first | refine blk_drewN ?_ _ | refine blk_drew ?_ | refine blk_alloc ?_ _)); refine blk_put (cs := #[.int .i64 a0_0, .int .i64 a0_1, .int .i64 a0_2, .int .i64 a0_3, .int .i64 a0_4, .int .i64 a0_5, .int .i64 x152006_2, .int .i64 x152007_2, .int .i64 x152008_2, .int .i64 x152009_2, .int .i64 x152010_2, .int .i64 x152011_2]) ?_ 6 _ rfl; (with_reducible repeat (first | refine blk_drewN ?_ _ | refine blk_drew ?_ | refine blk_alloc ?_ _)); refine blk_put (cs := #[.int .i64 a0_0, .int .i64 a0_1, .int .i64 a0_2, .int .i64 a0_3, .int .i64 a0_4, .int .i64 x152005_2, .int .i64 x152006_2, .int .i64 x152007_2, .int .i64 x152008_2, .int .i64 x152009_2, .int .i64 x152010_2, .int .i64 x152011_2]) ?_ 5 _ rfl; (with_reducible repeat (first | refine blk_drewN ?_ _ | refine blk_drew ?_ | refine blk_alloc ?_ _)); refine blk_put (cs := #[.int .i64 a0_0, .int .i64 a0_1, .int .i64 a0_2, .int .i64 a0_3, .int .i64 x152004_2, .int .i64 x152005_2, .int .i64 x152006_2, .int .i64 x152007_2, .int .i64 x152008_2, .int .i64 x152009_2, .int .i64 x152010_2, .int .i64 x152011_2]) ?_ 4 _ rfl; (with_reducible repeat (first | refine blk_drewN ?_ _ | refine blk_drew ?_ | refine blk_alloc ?_ _)); refine blk_put (cs := #[.int .i64 a0_0, .int .i64 a0_1, .int .i64 a0_2, .int .i64 x152003_2, .int .i64 x152004_2, .int .i64 x152005_2, .int .i64 x152006_2, .int .i64 x152007_2, .int .i64 x152008_2, .int .i64 x152009_2, .int .i64 x152010_2, .int .i64 x152011_2]) ?_ 3 _ rfl; (with_reducible repeat (first | refine blk_drewN ?_ _ | refine blk_drew ?_ | refine blk_alloc ?_ _)); refine blk_put (cs := #[.int .i64 a0_0, .int .i64 a0_1, .int .i64 x152002_2, .int .i64 x152003_2, .int .i64 x152004_2, .int .i64 x152005_2, .int .i64 x152006_2, .int .i64 x152007_2, .int .i64 x152008_2, .int .i64 x152009_2, .int .i64 x152010_2, .int .i64 x152011_2]) ?_ 2 _ rfl; (with_reducible repeat (first | refine blk_drewN ?_ _ | refine blk_drew ?_ | refine blk_alloc ?_ _)); refine blk_put (cs := #[.int .i64 a0_0, .int .i64 x152001_2, .int .i64 x152002_2, .int .i64 x152003_2, .int .i64 x152004_2, .int .i64 x152005_2, .int .i64 x152006_2, .int .i64 x152007_2, .int .i64 x152008_2, .int .i64 x152009_2, .int .i64 x152010_2, .int .i64 x152011_2]) ?_ 1 _ rfl; (with_reducible repeat (first | refine blk_drewN ?_ _ | refine blk_drew ?_ | refine blk_alloc ?_ _)); refine blk_put (cs := #[.int .i64 x152000_2, .int .i64 x152001_2, .int .i64 x152002_2, .int .i64 x152003_2, .int .i64 x152004_2, .int .i64 x152005_2, .int .i64 x152006_2, .int .i64 x152007_2, .int .i64 x152008_2, .int .i64 x152009_2, .int .i64 x152010_2, .int .i64 x152011_2]) ?_ 0 _ rfl; (with_reducible repeat (first | refine blk_drewN ?_ _ | refine blk_drew ?_ | refine blk_alloc ?_ _)); exact BK151.out) Tryd.underlying24 rfl (by kernel_rfl)) rfl ?_
                exact ⟨by first | rfl | (simp [errW_none, errW_some] <;> rfl) | (simp [*, errW_none, errW_some] <;> rfl), by repeat (first | (with_reducible first | exact HB.out | apply below_alloc | apply pw_below_drewN | apply below_drew1 | refine below_set ?_ GE150.out | refine below_set ?_ GE151.out | refine below_set ?_ GE154.out) | exact HB.out)⟩
            · rw [if_neg c15] at H
              have c15b0 : decide (x9_2 < 12) = false := decide_eq_false c15
              clear c15
              have H' := Aside0.mk H
              clear H
              go_wp2
              go_loopg [12] k2 (fun kq v12 w' => ∃ (x12_3 : Int) (x152000_3 : Int) (x152001_3 : Int) (x152002_3 : Int) (x152003_3 : Int) (x152004_3 : Int) (x152005_3 : Int) (x152006_3 : Int) (x152007_3 : Int) (x152008_3 : Int) (x152009_3 : Int) (x152010_3 : Int) (x152011_3 : Int), v12 = .int .i64 x12_3 ∧ Aside0 (arrearsref8_Post.l2 kq x12_3 a0_0 a0_1 a0_2 a0_3 a0_4 a0_5 a0_6 a0_7 a0_8 a0_9 a0_10 a0_11 x155000_2 x155001_2 x155002_2 x155003_2 x155004_2 x155005_2 x155006_2 x155007_2 x155008_2 x155009_2 x155010_2 x155011_2 = some (r1, r2, r3, r4, r5, r6, r7, r8, r9, r10, r11, r12, r13)) ∧ Aside0 (kq ≤ k2) ∧ Aside0 (w'.heap[gb150]? = some (.cells #[.int .i64 a0_0, .int .i64 a0_1, .int .i64 a0_2, .int .i64 a0_3, .int .i64 a0_4, .int .i64 a0_5, .int .i64 a0_6, .int .i64 a0_7, .int .i64 a0_8, .int .i64 a0_9, .int .i64 a0_10, .int .i64 a0_11] 24 (0, 0))) ∧ Aside0 (w'.heap[gb151]? = some (.cells #[.int .i64 x152000_3, .int .i64 x152001_3, .int .i64 x152002_3, .int .i64 x152003_3, .int .i64 x152004_3, .int .i64 x152005_3, .int .i64 x152006_3, .int .i64 x152007_3, .int .i64 x152008_3, .int .i64 x152009_3, .int .i64 x152010_3, .int .i64 x152011_3] 24 (0, 0))) ∧ Aside0 (w'.heap[gb154]? = some (.cells #[.int .i64 x155000_2, .int .i64 x155001_2, .int .i64 x155002_2, .int .i64 x155003_2, .int .i64 x155004_2, .int .i64 x155005_2, .int .i64 x155006_2, .int .i64 x155007_2, .int .i64 x155008_2, .int .i64 x155009_2, .int .i64 x155010_2, .int .i64 x155011_2] 24 (0, 0))) ∧ Aside0 (Below w.heap.size w w'))
              case atStart => exact ⟨(0), (x152000_2), (x152001_2), (x152002_2), (x152003_2), (x152004_2), (x152005_2), (x152006_2), (x152007_2), (x152008_2), (x152009_2), (x152010_2), (x152011_2), (by first | rfl | (simp; done) | (simp [*]; done)), H', ⟨Nat.le_refl _⟩, ⟨by (with_reducible repeat (first | refine blk_drewN ?_ _ | refine blk_drew ?_ | refine blk_alloc ?_ _)); exact BK150.out⟩, ⟨by (with_reducible repeat (first | refine blk_drewN ?_ _ | refine blk_drew ?_ | refine blk_alloc ?_ _)); exact BK151.out⟩, ⟨by (with_reducible repeat (first | refine blk_drewN ?_ _ | refine blk_drew ?_ | refine blk_alloc ?_ _)); exact BK154.out⟩, ⟨by repeat (first | (with_reducible first | exact HB.out | apply below_alloc | apply pw_below_drewN | apply below_drew1 | refine below_set ?_ GE150.out | refine below_set ?_ GE151.out | refine below_set ?_ GE154.out) | exact HB.out)⟩⟩
              case round =>
                clear H'
                try clear c1
                try clear p1
                try clear q1
                try clear hx1
                try clear c2
                try clear p2
                try clear c3
                try clear c4
                try clear c5
                try clear c5b0
                try clear c6
                try clear c6b0
                try clear p6
                try clear c8
                try clear c8b0
                try clear c8b1
                try clear c11
                try clear c15
                try clear c15b0
                try clear p15
                try clear q15
                try clear hx15
                try clear p16
                try clear q16
                try clear c18
                try clear c19
                try clear c19b0
                try clear c19b1
                try clear c20
                try clear c21
                try clear c26
                try clear c28
                try clear c28b0
                try clear c29
                try clear c30
                try clear c34
                try clear c35
                try clear c36
                try clear c39
                try clear c40
                try clear c41
                try clear hcz12_0
                try clear hcz12_1
                try clear hcz12_10
                try clear hcz12_11
                try clear hcz12_2
                try clear hcz12_3
                try clear hcz12_4
                try clear hcz12_5
                try clear hcz12_6
                try clear hcz12_7
                try clear hcz12_8
                try clear hcz12_9
                try clear hcz13_0
                try clear hcz13_1
                try clear hcz13_10
                try clear hcz13_11
                try clear hcz13_2
                try clear hcz13_3
                try clear hcz13_4
                try clear hcz13_5
                try clear hcz13_6
                try clear hcz13_7
                try clear hcz13_8
                try clear hcz13_9
                try clear hcz22_0
                try clear hcz22_1
                try clear hcz22_10
                try clear hcz22_11
                try clear hcz22_2
                try clear hcz22_3
                try clear hcz22_4
                try clear hcz22_5
                try clear hcz22_6
                try clear hcz22_7
                try clear hcz22_8
                try clear hcz22_9
                try clear hcz25_0
                try clear hcz25_1
                try clear hcz25_10
                try clear hcz25_11
                try clear hcz25_2
                try clear hcz25_3
                try clear hcz25_4
                try clear hcz25_5
                try clear hcz25_6
                try clear hcz25_7
                try clear hcz25_8
                try clear hcz25_9
                try clear hcz27_0
                try clear hcz27_1
                try clear hcz27_10
                try clear hcz27_11
                try clear hcz27_2
                try clear hcz27_3
                try clear hcz27_4
                try clear hcz27_5
                try clear hcz27_6
                try clear hcz27_7
                try clear hcz27_8
                try clear hcz27_9
                try clear hcz31_0
                try clear hcz31_1
                try clear hcz31_10
                try clear hcz31_11
                try clear hcz31_2
                try clear hcz31_3
                try clear hcz31_4
                try clear hcz31_5
                try clear hcz31_6
                try clear hcz31_7
                try clear hcz31_8
                try clear hcz31_9
                try clear hcz37_0
                try clear hcz37_1
                try clear hcz37_10
                try clear hcz37_11
                try clear hcz37_2
                try clear hcz37_3
                try clear hcz37_4
                try clear hcz37_5
                try clear hcz37_6
                try clear hcz37_7
                try clear hcz37_8
                try clear hcz37_9
                try clear hcz40_0
                try clear hcz40_1
                try clear hcz40_10
                try clear hcz40_11
                try clear hcz40_2
                try clear hcz40_3
                try clear hcz40_4
                try clear hcz40_5
                try clear hcz40_6
                try clear hcz40_7
                try clear hcz40_8
                try clear hcz40_9
                try clear hcz42_0
                try clear hcz42_1
                try clear hcz42_10
                try clear hcz42_11
                try clear hcz42_2
                try clear hcz42_3
                try clear hcz42_4
                try clear hcz42_5
                try clear hcz42_6
                try clear hcz42_7
                try clear hcz42_8
                try clear hcz42_9
                try clear hfz12_0
                try clear hfz12_1
                try clear hfz12_10
                try clear hfz12_11
                try clear hfz12_2
                try clear hfz12_3
                try clear hfz12_4
                try clear hfz12_5
                try clear hfz12_6
                try clear hfz12_7
                try clear hfz12_8
                try clear hfz12_9
                try clear hfz13_0
                try clear hfz13_1
                try clear hfz13_10
                try clear hfz13_11
                try clear hfz13_2
                try clear hfz13_3
                try clear hfz13_4
                try clear hfz13_5
                try clear hfz13_6
                try clear hfz13_7
                try clear hfz13_8
                try clear hfz13_9
                try clear hfz22_0
                try clear hfz22_1
                try clear hfz22_10
                try clear hfz22_11
                try clear hfz22_2
                try clear hfz22_3
                try clear hfz22_4
                try clear hfz22_5
                try clear hfz22_6
                try clear hfz22_7
                try clear hfz22_8
                try clear hfz22_9
                try clear hfz25_0
                try clear hfz25_1
                try clear hfz25_10
                try clear hfz25_11
                try clear hfz25_2
                try clear hfz25_3
                try clear hfz25_4
                try clear hfz25_5
                try clear hfz25_6
                try clear hfz25_7
                try clear hfz25_8
                try clear hfz25_9
                try clear hfz27_0
                try clear hfz27_1
                try clear hfz27_10
                try clear hfz27_11
                try clear hfz27_2
                try clear hfz27_3
                try clear hfz27_4
                try clear hfz27_5
                try clear hfz27_6
                try clear hfz27_7
                try clear hfz27_8
                try clear hfz27_9
                try clear hfz31_0
                try clear hfz31_1
                try clear hfz31_10
                try clear hfz31_11
                try clear hfz31_2
                try clear hfz31_3
                try clear hfz31_4
                try clear hfz31_5
                try clear hfz31_6
                try clear hfz31_7
                try clear hfz31_8
                try clear hfz31_9
                try clear hfz37_0
                try clear hfz37_1
                try clear hfz37_10
                try clear hfz37_11
                try clear hfz37_2
                try clear hfz37_3
                try clear hfz37_4
                try clear hfz37_5
                try clear hfz37_6
                try clear hfz37_7
                try clear hfz37_8
                try clear hfz37_9
                try clear hfz40_0
                try clear hfz40_1
                try clear hfz40_10
                try clear hfz40_11
                try clear hfz40_2
                try clear hfz40_3
                try clear hfz40_4
                try clear hfz40_5
                try clear hfz40_6
                try clear hfz40_7
                try clear hfz40_8
                try clear hfz40_9
                try clear hfz42_0
                try clear hfz42_1
                try clear hfz42_10
                try clear hfz42_11
                try clear hfz42_2
                try clear hfz42_3
                try clear hfz42_4
                try clear hfz42_5
                try clear hfz42_6
                try clear hfz42_7
                try clear hfz42_8
                try clear hfz42_9
                try clear hx152_0
                try clear hx152_1
                try clear hx152_2
                try clear p1
                try clear p152
                try clear p160
                try clear p2
                try clear p6
                try clear q1
                try clear q152
                try clear q160
                obtain ⟨x12_3, x152000_3, x152001_3, x152002_3, x152003_3, x152004_3, x152005_3, x152006_3, x152007_3, x152008_3, x152009_3, x152010_3, x152011_3, rfl, HA, HK3, BK150, BK151, BK154, HB⟩ := hrel
                cases gk with
                | zero => exact absurd HA.out (by simp [arrearsref8_Post.l2])
                | succ k3 =>
                  have H := HA.out
                  clear HA
                  simp only [arrearsref8_Post.l2] at H
                  by_cases c43 : x12_3 < 12
                  · rw [if_pos c43] at H
                    have c43b0 : decide (x12_3 < 12) = true := decide_eq_true c43
                    clear c43
                    by_cases c44 : 0 ≤ x12_3
                    · rw [if_pos c44] at H
                      have c44b0 : decide (0 ≤ x12_3) = true := decide_eq_true c44
                      clear c44
                      replace H := Option.bind_eq_some_iff.mp H
                      obtain ⟨t162, A450, H⟩ := H
                      replace H : (if t162 = true then (arrearsref8_Post.l2 k3 (wrap64 (x12_3 + 1)) a0_0 a0_1 a0_2 a0_3 a0_4 a0_5 a0_6 a0_7 a0_8 a0_9 a0_10 a0_11 x155000_2 x155001_2 x155002_2 x155003_2 x155004_2 x155005_2 x155006_2 x155007_2 x155008_2 x155009_2 x155010_2 x155011_2) else (some (a0_0, a0_1, a0_2, a0_3, a0_4, a0_5, a0_6, a0_7, a0_8, a0_9, a0_10, a0_11, 81))) = some (r1, r2, r3, r4, r5, r6, r7, r8, r9, r10, r11, r12, r13) := H
                      have A45 := Aside0.mk A450
                      clear A450
                      by_cases c46 : t162 = true
                      · subst c46
                        have H1 : (arrearsref8_Post.l2 k3 (wrap64 (x12_3 + 1)) a0_0 a0_1 a0_2 a0_3 a0_4 a0_5 a0_6 a0_7 a0_8 a0_9 a0_10 a0_11 x155000_2 x155001_2 x155002_2 x155003_2 x155004_2 x155005_2 x155006_2 x155007_2 x155008_2 x155009_2 x155010_2 x155011_2) = some (r1, r2, r3, r4, r5, r6, r7, r8, r9, r10, r11, r12, r13) := by rw [if_pos rfl] at H; exact H
                        clear H
                        have H := H1
                        clear H1
                        have H' := Aside0.mk H
                        clear H
                        have p161 : 0 ≤ (x12_3 : Int) := of_decide_eq_true (by first | (with_reducible assumption) | assumption)
                        have q161 : (x12_3 : Int) < 12 := of_decide_eq_true (by first | (with_reducible assumption) | assumption)
                        have hs161 : wr.cell? ⟨gb154, (x12_3 : Int).toNat, none⟩ = some (.int .i64 (selI [x155000_2, x155001_2, x155002_2, x155003_2, x155004_2, x155005_2, x155006_2, x155007_2, x155008_2, x155009_2, x155010_2, x155011_2] x12_3)) := (blk_cell BK154.out ((x12_3 : Int).toNat)).trans (selI_at .i64 [x155000_2, x155001_2, x155002_2, x155003_2, x155004_2, x155005_2, x155006_2, x155007_2, x155008_2, x155009_2, x155010_2, x155011_2] x12_3 p161 q161)
                        have t161 := eq_true (show (x12_3 : Int).toNat < 12 by omega)
                        replace p161 := eq_true p161
                        replace q161 := eq_true q161
                        go_wp2_with (first | ((with_reducible refine gate_callee (f := 42) rfl ?_); refine goesL_ (some 60) rfl rfl Tryd.func42 (by kernel_rfl) rfl #[.int .i64 x12_3, .int .i64 (selI [x155000_2, x155001_2, x155002_2, x155003_2, x155004_2, x155005_2, x155006_2, x155007_2, x155008_2, x155009_2, x155010_2, x155011_2] x12_3)] rfl (by (try simp only [List.map_toArray, List.map_cons, List.map_nil]); first | done | rfl | (simp only [List.length_drop, List.length_take]; rfl)) ?_; (with_reducible refine (arrearsref8_OwnSide.calls x12_3 (selI [x155000_2, x155001_2, x155002_2, x155003_2, x155004_2, x155005_2, x155006_2, x155007_2, x155008_2, x155009_2, x155010_2, x155011_2] x12_3) true _ A45.out).mono ?_); rintro e w' ⟨rfl, ⟨nd, rfl⟩⟩; refine ⟨_, rfl, ?_⟩))
                        go_roundg k3
                        case measure => have := HK1.out; have := HK2.out; have := HK3.out; omega
                        case rel => exact ⟨(wrap64 (x12_3 + 1)), (x152000_3), (x152001_3), (x152002_3), (x152003_3), (x152004_3), (x152005_3), (x152006_3), (x152007_3), (x152008_3), (x152009_3), (x152010_3), (x152011_3), (by first | rfl | (simp; done) | (simp [*]; done)), H', ⟨by have := HK1.out; have := HK2.out; have := HK3.out; omega⟩, ⟨by (with_reducible repeat (first | refine blk_drewN ?_ _ | refine blk_drew ?_ | refine blk_alloc ?_ _)); exact BK150.out⟩, ⟨by (with_reducible repeat (first | refine blk_drewN ?_ _ | refine blk_drew ?_ | refine blk_alloc ?_ _)); exact BK151.out⟩, ⟨by (with_reducible repeat (first | refine blk_drewN ?_ _ | refine blk_drew ?_ | refine blk_alloc ?_ _)); exact BK154.out⟩, ⟨by repeat (first | (with_reducible first | exact HB.out | apply below_alloc | apply pw_below_drewN | apply below_drew1 | refine below_set ?_ GE150.out | refine below_set ?_ GE151.out | refine below_set ?_ GE154.out) | exact HB.out)⟩⟩
                      · replace c46 := Bool.eq_false_iff.mpr c46
                        subst c46
                        have H1 : (some (a0_0, a0_1, a0_2, a0_3, a0_4, a0_5, a0_6, a0_7, a0_8, a0_9, a0_10, a0_11, 81)) = some (r1, r2, r3, r4, r5, r6, r7, r8, r9, r10, r11, r12, r13) := by rw [if_neg (show ¬ (false = true) by decide)] at H; exact H
                        clear H
                        have H := H1
                        clear H1
                        simp only [Option.some.injEq, Prod.mk.injEq] at H
                        obtain ⟨rfl, rfl, rfl, rfl, rfl, rfl, rfl, rfl, rfl, rfl, rfl, rfl, rfl⟩ := H
                        have p161 : 0 ≤ (x12_3 : Int) := of_decide_eq_true (by first | (with_reducible assumption) | assumption)
                        have q161 : (x12_3 : Int) < 12 := of_decide_eq_true (by first | (with_reducible assumption) | assumption)
                        have hs161 : wr.cell? ⟨gb154, (x12_3 : Int).toNat, none⟩ = some (.int .i64 (selI [x155000_2, x155001_2, x155002_2, x155003_2, x155004_2, x155005_2, x155006_2, x155007_2, x155008_2, x155009_2, x155010_2, x155011_2] x12_3)) := (blk_cell BK154.out ((x12_3 : Int).toNat)).trans (selI_at .i64 [x155000_2, x155001_2, x155002_2, x155003_2, x155004_2, x155005_2, x155006_2, x155007_2, x155008_2, x155009_2, x155010_2, x155011_2] x12_3 p161 q161)
                        have t161 := eq_true (show (x12_3 : Int).toNat < 12 by omega)
                        replace p161 := eq_true p161
                        replace q161 := eq_true q161
                        go_wp2_with (first | ((with_reducible refine gate_callee (f := 42) rfl ?_); refine goesL_ (some 60) rfl rfl Tryd.func42 (by kernel_rfl) rfl #[.int .i64 x12_3, .int .i64 (selI [x155000_2, x155001_2, x155002_2, x155003_2, x155004_2, x155005_2, x155006_2, x155007_2, x155008_2, x155009_2, x155010_2, x155011_2] x12_3)] rfl (by (try simp only [List.map_toArray, List.map_cons, List.map_nil]); first | done | rfl | (simp only [List.length_drop, List.length_take]; rfl)) ?_; (with_reducible refine (arrearsref8_OwnSide.calls x12_3 (selI [x155000_2, x155001_2, x155002_2, x155003_2, x155004_2, x155005_2, x155006_2, x155007_2, x155008_2, x155009_2, x155010_2, x155011_2] x12_3) false _ A45.out).mono ?_); rintro e w' ⟨rfl, ⟨nd, rfl⟩⟩; refine ⟨_, rfl, ?_⟩; (try (rw [drewN_self wr]; generalize hq_ : World.drewN wr _ = wr; have n0_ : Aside0 (wr.heap[gb150]? = some (.cells #[.int .i64 a0_0, .int .i64 a0_1, .int .i64 a0_2, .int .i64 a0_3, .int .i64 a0_4, .int .i64 a0_5, .int .i64 a0_6, .int .i64 a0_7, .int .i64 a0_8, .int .i64 a0_9, .int .i64 a0_10, .int .i64 a0_11] 24 (0, 0))) := ⟨by rw [← hq_]; exact (by (with_reducible repeat (first | refine blk_drewN ?_ _ | refine blk_drew ?_ | refine blk_alloc ?_ _)); exact BK150.out)⟩; have n1_ : Aside0 (wr.heap[gb151]? = some (.cells #[.int .i64 x152000_3, .int .i64 x152001_3, .int .i64 x152002_3, .int .i64 x152003_3, .int .i64 x152004_3, .int .i64 x152005_3, .int .i64 x152006_3, .int .i64 x152007_3, .int .i64 x152008_3, .int .i64 x152009_3, .int .i64 x152010_3, .int .i64 x152011_3] 24 (0, 0))) := ⟨by rw [← hq_]; exact (by (with_reducible repeat (first | refine blk_drewN ?_ _ | refine blk_drew ?_ | refine blk_alloc ?_ _)); exact BK151.out)⟩; have n2_ : Aside0 (wr.heap[gb154]? = some (.cells #[.int .i64 x155000_2, .int .i64 x155001_2, .int .i64 x155002_2, .int .i64 x155003_2, .int .i64 x155004_2, .int .i64 x155005_2, .int .i64 x155006_2, .int .i64 x155007_2, .int .i64 x155008_2, .int .i64 x155009_2, .int .i64 x155010_2, .int .i64 x155011_2] 24 (0, 0))) := ⟨by rw [← hq_]; exact (by (with_reducible repeat (first | refine blk_drewN ?_ _ | refine blk_drew ?_ | refine blk_alloc ?_ _)); exact BK154.out)⟩; have n3_ : Aside0 (Below w.heap.size w wr) := ⟨by rw [← hq_]; exact (by repeat (first | (with_reducible first | exact HB.out | apply below_alloc | apply pw_below_drewN | apply below_drew1 | refine below_set ?_ GE150.out | refine below_set ?_ GE151.out | refine below_set ?_ GE154.out) | exact HB.out))⟩; clear BK150 BK151 BK154 HB hq_; have BK150 := n0_; have BK151 := n1_; have BK154 := n2_; have HB := n3_; clear n0_ n1_ n2_ n3_)); have hnb47 := NB150_151.out; have hnc47 := NB151_150.out; have hnb48 := NB150_154.out; have hnc48 := NB154_150.out; have hcz49_0 : wr.cell? ⟨gb150, 0, none⟩ = some (.int .i64 a0_0) := (blk_cell BK150.out 0).trans rfl; have hcz49_1 : wr.cell? ⟨gb150, 1, none⟩ = some (.int .i64 a0_1) := (blk_cell BK150.out 1).trans rfl; have hcz49_2 : wr.cell? ⟨gb150, 2, none⟩ = some (.int .i64 a0_2) := (blk_cell BK150.out 2).trans rfl; have hcz49_3 : wr.cell? ⟨gb150, 3, none⟩ = some (.int .i64 a0_3) := (blk_cell BK150.out 3).trans rfl; have hcz49_4 : wr.cell? ⟨gb150, 4, none⟩ = some (.int .i64 a0_4) := (blk_cell BK150.out 4).trans rfl; have hcz49_5 : wr.cell? ⟨gb150, 5, none⟩ = some (.int .i64 a0_5) := (blk_cell BK150.out 5).trans rfl; have hcz49_6 : wr.cell? ⟨gb150, 6, none⟩ = some (.int .i64 a0_6) := (blk_cell BK150.out 6).trans rfl; have hcz49_7 : wr.cell? ⟨gb150, 7, none⟩ = some (.int .i64 a0_7) := (blk_cell BK150.out 7).trans rfl; have hcz49_8 : wr.cell? ⟨gb150, 8, none⟩ = some (.int .i64 a0_8) := (blk_cell BK150.out 8).trans rfl; have hcz49_9 : wr.cell? ⟨gb150, 9, none⟩ = some (.int .i64 a0_9) := (blk_cell BK150.out 9).trans rfl; have hcz49_10 : wr.cell? ⟨gb150, 10, none⟩ = some (.int .i64 a0_10) := (blk_cell BK150.out 10).trans rfl; have hcz49_11 : wr.cell? ⟨gb150, 11, none⟩ = some (.int .i64 a0_11) := (blk_cell BK150.out 11).trans rfl; have hfz49_0 := blk_frozen BK150.out 0; have hfz49_1 := blk_frozen BK150.out 1; have hfz49_2 := blk_frozen BK150.out 2; have hfz49_3 := blk_frozen BK150.out 3; have hfz49_4 := blk_frozen BK150.out 4; have hfz49_5 := blk_frozen BK150.out 5; have hfz49_6 := blk_frozen BK150.out 6; have hfz49_7 := blk_frozen BK150.out 7; have hfz49_8 := blk_frozen BK150.out 8; have hfz49_9 := blk_frozen BK150.out 9; have hfz49_10 := blk_frozen BK150.out 10; have hfz49_11 := blk_frozen BK150.out 11; have hnb50 := NB151_154.out; have hnc50 := NB154_151.out; have hcz51_0 : wr.cell? ⟨gb151, 0, none⟩ = some (.int .i64 x152000_3) := (blk_cell BK151.out 0).trans rfl; have hcz51_1 : wr.cell? ⟨gb151, 1, none⟩ = some (.int .i64 x152001_3) := (blk_cell BK151.out 1).trans rfl; have hcz51_2 : wr.cell? ⟨gb151, 2, none⟩ = some (.int .i64 x152002_3) := (blk_cell BK151.out 2).trans rfl; have hcz51_3 : wr.cell? ⟨gb151, 3, none⟩ = some (.int .i64 x152003_3) := (blk_cell BK151.out 3).trans rfl; have hcz51_4 : wr.cell? ⟨gb151, 4, none⟩ = some (.int .i64 x152004_3) := (blk_cell BK151.out 4).trans rfl; have hcz51_5 : wr.cell? ⟨gb151, 5, none⟩ = some (.int .i64 x152005_3) := (blk_cell BK151.out 5).trans rfl; have hcz51_6 : wr.cell? ⟨gb151, 6, none⟩ = some (.int .i64 x152006_3) := (blk_cell BK151.out 6).trans rfl; have hcz51_7 : wr.cell? ⟨gb151, 7, none⟩ = some (.int .i64 x152007_3) := (blk_cell BK151.out 7).trans rfl; have hcz51_8 : wr.cell? ⟨gb151, 8, none⟩ = some (.int .i64 x152008_3) := (blk_cell BK151.out 8).trans rfl; have hcz51_9 : wr.cell? ⟨gb151, 9, none⟩ = some (.int .i64 x152009_3) := (blk_cell BK151.out 9).trans rfl; have hcz51_10 : wr.cell? ⟨gb151, 10, none⟩ = some (.int .i64 x152010_3) := (blk_cell BK151.out 10).trans rfl; have hcz51_11 : wr.cell? ⟨gb151, 11, none⟩ = some (.int .i64 x152011_3) := (blk_cell BK151.out 11).trans rfl; have hfz51_0 := blk_frozen BK151.out 0; have hfz51_1 := blk_frozen BK151.out 1; have hfz51_2 := blk_frozen BK151.out 2; have hfz51_3 := blk_frozen BK151.out 3; have hfz51_4 := blk_frozen BK151.out 4; have hfz51_5 := blk_frozen BK151.out 5; have hfz51_6 := blk_frozen BK151.out 6; have hfz51_7 := blk_frozen BK151.out 7; have hfz51_8 := blk_frozen BK151.out 8; have hfz51_9 := blk_frozen BK151.out 9; have hfz51_10 := blk_frozen BK151.out 10; have hfz51_11 := blk_frozen BK151.out 11))
                        refine bodyPost_ret (results_ct rfl _ _ gb151 24 #[.int .i64 a0_0, .int .i64 a0_1, .int .i64 a0_2, .int .i64 a0_3, .int .i64 a0_4, .int .i64 a0_5, .int .i64 a0_6, .int .i64 a0_7, .int .i64 a0_8, .int .i64 a0_9, .int .i64 a0_10, .int .i64 a0_11] (0, 0) _ rfl (by (with_reducible repeat (first | refine blk_drewN ?_ _ | refine blk_drew ?_ | refine blk_alloc ?_ _)); refine blk_put (cs := #[.int .i64 a0_0, .int .i64 a0_1, .int .i64 a0_2, .int .i64 a0_3, .int .i64 a0_4, .int .i64 a0_5, .int .i64 a0_6, .int .i64 a0_7, .int .i64 a0_8, .int .i64 a0_9, .int .i64 a0_10, .int .i64 x152011_3]) ?_ 11 _ rfl; (with_reducible repeat (first | refine blk_drewN ?_ _ | refine blk_drew ?_ | refine blk_alloc ?_ _)); refine blk_put (cs := #[.int .i64 a0_0, .int .i64 a0_1, .int .i64 a0_2, .int .i64 a0_3, .int .i64 a0_4, .int .i64 a0_5, .int .i64 a0_6, .int .i64 a0_7, .int .i64 a0_8, .int .i64 a0_9, .int .i64 x152010_3, .int .i64 x152011_3]) ?_ 10 _ rfl; (with_reducible repeat (first | refine blk_drewN ?_ _ | refine blk_drew ?_ | refine blk_alloc ?_ _)); refine blk_put (cs := #[.int .i64 a0_0, .int .i64 a0_1, .int .i64 a0_2, .int .i64 a0_3, .int .i64 a0_4, .int .i64 a0_5, .int .i64 a0_6, .int .i64 a0_7, .int .i64 a0_8, .int .i64 x152009_3, .int .i64 x152010_3, .int .i64 x152011_3]) ?_ 9 _ rfl; (with_reducible repeat (first | refine blk_drewN ?_ _ | refine blk_drew ?_ | refine blk_alloc ?_ _)); refine blk_put (cs := #[.int .i64 a0_0, .int .i64 a0_1, .int .i64 a0_2, .int .i64 a0_3, .int .i64 a0_4, .int .i64 a0_5, .int .i64 a0_6, .int .i64 a0_7, .int .i64 x152008_3, .int .i64 x152009_3, .int .i64 x152010_3, .int .i64 x152011_3]) ?_ 8 _ rfl; (with_reducible repeat (first | refine blk_drewN ?_ _ | refine blk_drew ?_ | refine blk_alloc ?_ _)); refine blk_put (cs := #[.int .i64 a0_0, .int .i64 a0_1, .int .i64 a0_2, .int .i64 a0_3, .int .i64 a0_4, .int .i64 a0_5, .int .i64 a0_6, .int .i64 x152007_3, .int .i64 x152008_3, .int .i64 x152009_3, .int .i64 x152010_3, .int .i64 x152011_3]) ?_ 7 _ rfl; (with_reducible repeat (first | refine blk_drewN ?_ _ | refine blk_drew ?_ | refine blk_alloc ?_ _)); refine blk_put (cs := #[.int .i64 a0_0, .int .i64 a0_1, .int .i64 a0_2, .int .i64 a0_3, .int .i64 a0_4, .int .i64 a0_5, .int .i64 x152006_3, .int .i64 x152007_3, .int .i64 x152008_3, .int .i64 x152009_3, .int .i64 x152010_3, .int .i64 x152011_3]) ?_ 6 _ rfl; (with_reducible repeat (first | refine blk_drewN ?_ _ | refine blk_drew ?_ | refine blk_alloc ?_ _)); refine blk_put (cs := #[.int .i64 a0_0, .int .i64 a0_1, .int .i64 a0_2, .int .i64 a0_3, .int .i64 a0_4, .int .i64 x152005_3, .int .i64 x152006_3, .int .i64 x152007_3, .int .i64 x152008_3, .int .i64 x152009_3, .int .i64 x152010_3, .int .i64 x152011_3]) ?_ 5 _ rfl; (with_reducible repeat (first | refine blk_drewN ?_ _ | refine blk_drew ?_ | refine blk_alloc ?_ _)); refine blk_put (cs := #[.int .i64 a0_0, .int .i64 a0_1, .int .i64 a0_2, .int .i64 a0_3, .int .i64 x152004_3, .int .i64 x152005_3, .int .i64 x152006_3, .int .i64 x152007_3, .int .i64 x152008_3, .int .i64 x152009_3, .int .i64 x152010_3, .int .i64 x152011_3]) ?_ 4 _ rfl; (with_reducible repeat (first | refine blk_drewN ?_ _ | refine blk_drew ?_ | refine blk_alloc ?_ _)); refine blk_put (cs := #[.int .i64 a0_0, .int .i64 a0_1, .int .i64 a0_2, .int .i64 x152003_3, .int .i64 x152004_3, .int .i64 x152005_3, .int .i64 x152006_3, .int .i64 x152007_3, .int .i64 x152008_3, .int .i64 x152009_3, .int .i64 x152010_3, .int .i64 x152011_3]) ?_ 3 _ rfl; (with_reducible repeat (first | refine blk_drewN ?_ _ | refine blk_drew ?_ | refine blk_alloc ?_ _)); refine blk_put (cs := #[.int .i64 a0_0, .int .i64 a0_1, .int .i64 x152002_3, .int .i64 x152003_3, .int .i64 x152004_3, .int .i64 x152005_3, .int .i64 x152006_3, .int .i64 x152007_3, .int .i64 x152008_3, .int .i64 x152009_3, .int .i64 x152010_3, .int .i64 x152011_3]) ?_ 2 _ rfl; (with_reducible repeat (first | refine blk_drewN ?_ _ | refine blk_drew ?_ | refine blk_alloc ?_ _)); refine blk_put (cs := #[.int .i64 a0_0, .int .i64 x152001_3, .int .i64 x152002_3, .int .i64 x152003_3, .int .i64 x152004_3, .int .i64 x152005_3, .int .i64 x152006_3, .int .i64 x152007_3, .int .i64 x152008_3, .int .i64 x152009_3, .int .i64 x152010_3, .int .i64 x152011_3]) ?_ 1 _ rfl; (with_reducible repeat (first | refine blk_drewN ?_ _ | refine blk_drew ?_ | refine blk_alloc ?_ _)); refine blk_put (cs := #[.int .i64 x152000_3, .int .i64 x152001_3, .int .i64 x152002_3, .int .i64 x152003_3, .int .i64 x152004_3, .int .i64 x152005_3, .int .i64 x152006_3, .int .i64 x152007_3, .int .i64 x152008_3, .int .i64 x152009_3, .int .i64 x152010_3, .int .i64 x152011_3]) ?_ 0 _ rfl; (with_reducible repeat (first | refine blk_drewN ?_ _ | refine blk_drew ?_ | refine blk_alloc ?_ _)); exact BK151.out) Tryd.underlying24 rfl (by kernel_rfl)) rfl ?_
                        exact ⟨by first | rfl | (simp [errW_none, errW_some] <;> rfl) | (simp [*, errW_none, errW_some] <;> rfl), by repeat (first | (with_reducible first | exact HB.out | apply below_alloc | apply pw_below_drewN | apply below_drew1 | refine below_set ?_ GE150.out | refine below_set ?_ GE151.out | refine below_set ?_ GE154.out) | exact HB.out)⟩
                    · rw [if_neg c44] at H
                      exact absurd H (by simp)
                  · rw [if_neg c43] at H
                    have c43b0 : decide (x12_3 < 12) = false := decide_eq_false c43
                    clear c43
                    simp only [Option.some.injEq, Prod.mk.injEq] at H
                    obtain ⟨rfl, rfl, rfl, rfl, rfl, rfl, rfl, rfl, rfl, rfl, rfl, rfl, rfl⟩ := H
                    have hnb52 := NB154_150.out
                    have hnc52 := NB150_154.out
                    have hnb53 := NB154_151.out
                    have hnc53 := NB151_154.out
                    have hcz54_0 : wr.cell? ⟨gb154, 0, none⟩ = some (.int .i64 x155000_2) := (blk_cell BK154.out 0).trans rfl
                    have hcz54_1 : wr.cell? ⟨gb154, 1, none⟩ = some (.int .i64 x155001_2) := (blk_cell BK154.out 1).trans rfl
                    have hcz54_2 : wr.cell? ⟨gb154, 2, none⟩ = some (.int .i64 x155002_2) := (blk_cell BK154.out 2).trans rfl
                    have hcz54_3 : wr.cell? ⟨gb154, 3, none⟩ = some (.int .i64 x155003_2) := (blk_cell BK154.out 3).trans rfl
                    have hcz54_4 : wr.cell? ⟨gb154, 4, none⟩ = some (.int .i64 x155004_2) := (blk_cell BK154.out 4).trans rfl
                    have hcz54_5 : wr.cell? ⟨gb154, 5, none⟩ = some (.int .i64 x155005_2) := (blk_cell BK154.out 5).trans rfl
                    have hcz54_6 : wr.cell? ⟨gb154, 6, none⟩ = some (.int .i64 x155006_2) := (blk_cell BK154.out 6).trans rfl
                    have hcz54_7 : wr.cell? ⟨gb154, 7, none⟩ = some (.int .i64 x155007_2) := (blk_cell BK154.out 7).trans rfl
                    have hcz54_8 : wr.cell? ⟨gb154, 8, none⟩ = some (.int .i64 x155008_2) := (blk_cell BK154.out 8).trans rfl
                    have hcz54_9 : wr.cell? ⟨gb154, 9, none⟩ = some (.int .i64 x155009_2) := (blk_cell BK154.out 9).trans rfl
                    have hcz54_10 : wr.cell? ⟨gb154, 10, none⟩ = some (.int .i64 x155010_2) := (blk_cell BK154.out 10).trans rfl
                    have hcz54_11 : wr.cell? ⟨gb154, 11, none⟩ = some (.int .i64 x155011_2) := (blk_cell BK154.out 11).trans rfl
                    have hfz54_0 := blk_frozen BK154.out 0
                    have hfz54_1 := blk_frozen BK154.out 1
                    have hfz54_2 := blk_frozen BK154.out 2
                    have hfz54_3 := blk_frozen BK154.out 3
                    have hfz54_4 := blk_frozen BK154.out 4
                    have hfz54_5 := blk_frozen BK154.out 5
                    have hfz54_6 := blk_frozen BK154.out 6
                    have hfz54_7 := blk_frozen BK154.out 7
                    have hfz54_8 := blk_frozen BK154.out 8
                    have hfz54_9 := blk_frozen BK154.out 9
                    have hfz54_10 := blk_frozen BK154.out 10
                    have hfz54_11 := blk_frozen BK154.out 11
                    have hnb55 := NB151_150.out
                    have hnc55 := NB150_151.out
                    have hcz56_0 : wr.cell? ⟨gb151, 0, none⟩ = some (.int .i64 x152000_3) := (blk_cell BK151.out 0).trans rfl
                    have hcz56_1 : wr.cell? ⟨gb151, 1, none⟩ = some (.int .i64 x152001_3) := (blk_cell BK151.out 1).trans rfl
                    have hcz56_2 : wr.cell? ⟨gb151, 2, none⟩ = some (.int .i64 x152002_3) := (blk_cell BK151.out 2).trans rfl
                    have hcz56_3 : wr.cell? ⟨gb151, 3, none⟩ = some (.int .i64 x152003_3) := (blk_cell BK151.out 3).trans rfl
                    have hcz56_4 : wr.cell? ⟨gb151, 4, none⟩ = some (.int .i64 x152004_3) := (blk_cell BK151.out 4).trans rfl
                    have hcz56_5 : wr.cell? ⟨gb151, 5, none⟩ = some (.int .i64 x152005_3) := (blk_cell BK151.out 5).trans rfl
                    have hcz56_6 : wr.cell? ⟨gb151, 6, none⟩ = some (.int .i64 x152006_3) := (blk_cell BK151.out 6).trans rfl
                    have hcz56_7 : wr.cell? ⟨gb151, 7, none⟩ = some (.int .i64 x152007_3) := (blk_cell BK151.out 7).trans rfl
                    have hcz56_8 : wr.cell? ⟨gb151, 8, none⟩ = some (.int .i64 x152008_3) := (blk_cell BK151.out 8).trans rfl
                    have hcz56_9 : wr.cell? ⟨gb151, 9, none⟩ = some (.int .i64 x152009_3) := (blk_cell BK151.out 9).trans rfl
                    have hcz56_10 : wr.cell? ⟨gb151, 10, none⟩ = some (.int .i64 x152010_3) := (blk_cell BK151.out 10).trans rfl
                    have hcz56_11 : wr.cell? ⟨gb151, 11, none⟩ = some (.int .i64 x152011_3) := (blk_cell BK151.out 11).trans rfl
                    have hfz56_0 := blk_frozen BK151.out 0
                    have hfz56_1 := blk_frozen BK151.out 1
                    have hfz56_2 := blk_frozen BK151.out 2
                    have hfz56_3 := blk_frozen BK151.out 3
                    have hfz56_4 := blk_frozen BK151.out 4
                    have hfz56_5 := blk_frozen BK151.out 5
                    have hfz56_6 := blk_frozen BK151.out 6
                    have hfz56_7 := blk_frozen BK151.out 7
                    have hfz56_8 := blk_frozen BK151.out 8
                    have hfz56_9 := blk_frozen BK151.out 9
                    have hfz56_10 := blk_frozen BK151.out 10
                    have hfz56_11 := blk_frozen BK151.out 11
                    go_wp2
                    refine bodyPost_ret (results_ct rfl _ _ gb151 24 #[.int .i64 x155000_2, .int .i64 x155001_2, .int .i64 x155002_2, .int .i64 x155003_2, .int .i64 x155004_2, .int .i64 x155005_2, .int .i64 x155006_2, .int .i64 x155007_2, .int .i64 x155008_2, .int .i64 x155009_2, .int .i64 x155010_2, .int .i64 x155011_2] (0, 0) _ rfl (by (with_reducible repeat (first | refine blk_drewN ?_ _ | refine blk_drew ?_ | refine blk_alloc ?_ _)); refine blk_put (cs := #[.int .i64 x155000_2, .int .i64 x155001_2, .int .i64 x155002_2, .int .i64 x155003_2, .int .i64 x155004_2, .int .i64 x155005_2, .int .i64 x155006_2, .int .i64 x155007_2, .int .i64 x155008_2, .int .i64 x155009_2, .int .i64 x155010_2, .int .i64 x152011_3]) ?_ 11 _ rfl; (with_reducible repeat (first | refine blk_drewN ?_ _ | refine blk_drew ?_ | refine blk_alloc ?_ _)); refine blk_put (cs := #[.int .i64 x155000_2, .int .i64 x155001_2, .int .i64 x155002_2, .int .i64 x155003_2, .int .i64 x155004_2, .int .i64 x155005_2, .int .i64 x155006_2, .int .i64 x155007_2, .int .i64 x155008_2, .int .i64 x155009_2, .int .i64 x152010_3, .int .i64 x152011_3]) ?_ 10 _ rfl; (with_reducible repeat (first | refine blk_drewN ?_ _ | refine blk_drew ?_ | refine blk_alloc ?_ _)); refine blk_put (cs := #[.int .i64 x155000_2, .int .i64 x155001_2, .int .i64 x155002_2, .int .i64 x155003_2, .int .i64 x155004_2, .int .i64 x155005_2, .int .i64 x155006_2, .int .i64 x155007_2, .int .i64 x155008_2, .int .i64 x152009_3, .int .i64 x152010_3, .int .i64 x152011_3]) ?_ 9 _ rfl; (with_reducible repeat (first | refine blk_drewN ?_ _ | refine blk_drew ?_ | refine blk_alloc ?_ _)); refine blk_put (cs := #[.int .i64 x155000_2, .int .i64 x155001_2, .int .i64 x155002_2, .int .i64 x155003_2, .int .i64 x155004_2, .int .i64 x155005_2, .int .i64 x155006_2, .int .i64 x155007_2, .int .i64 x152008_3, .int .i64 x152009_3, .int .i64 x152010_3, .int .i64 x152011_3]) ?_ 8 _ rfl; (with_reducible repeat (first | refine blk_drewN ?_ _ | refine blk_drew ?_ | refine blk_alloc ?_ _)); refine blk_put (cs := #[.int .i64 x155000_2, .int .i64 x155001_2, .int .i64 x155002_2, .int .i64 x155003_2, .int .i64 x155004_2, .int .i64 x155005_2, .int .i64 x155006_2, .int .i64 x152007_3, .int .i64 x152008_3, .int .i64 x152009_3, .int .i64 x152010_3, .int .i64 x152011_3]) ?_ 7 _ rfl; (with_reducible repeat (first | refine blk_drewN ?_ _ | refine blk_drew ?_ | refine blk_alloc ?_ _)); refine blk_put (cs := #[.int .i64 x155000_2, .int .i64 x155001_2, .int .i64 x155002_2, .int .i64 x155003_2, .int .i64 x155004_2, .int .i64 x155005_2, .int .i64 x152006_3, .int .i64 x152007_3, .int .i64 x152008_3, .int .i64 x152009_3, .int .i64 x152010_3, .int .i64 x152011_3]) ?_ 6 _ rfl; (with_reducible repeat (first | refine blk_drewN ?_ _ | refine blk_drew ?_ | refine blk_alloc ?_ _)); refine blk_put (cs := #[.int .i64 x155000_2, .int .i64 x155001_2, .int .i64 x155002_2, .int .i64 x155003_2, .int .i64 x155004_2, .int .i64 x152005_3, .int .i64 x152006_3, .int .i64 x152007_3, .int .i64 x152008_3, .int .i64 x152009_3, .int .i64 x152010_3, .int .i64 x152011_3]) ?_ 5 _ rfl; (with_reducible repeat (first | refine blk_drewN ?_ _ | refine blk_drew ?_ | refine blk_alloc ?_ _)); refine blk_put (cs := #[.int .i64 x155000_2, .int .i64 x155001_2, .int .i64 x155002_2, .int .i64 x155003_2, .int .i64 x152004_3, .int .i64 x152005_3, .int .i64 x152006_3, .int .i64 x152007_3, .int .i64 x152008_3, .int .i64 x152009_3, .int .i64 x152010_3, .int .i64 x152011_3]) ?_ 4 _ rfl; (with_reducible repeat (first | refine blk_drewN ?_ _ | refine blk_drew ?_ | refine blk_alloc ?_ _)); refine blk_put (cs := #[.int .i64 x155000_2, .int .i64 x155001_2, .int .i64 x155002_2, .int .i64 x152003_3, .int .i64 x152004_3, .int .i64 x152005_3, .int .i64 x152006_3, .int .i64 x152007_3, .int .i64 x152008_3, .int .i64 x152009_3, .int .i64 x152010_3, .int .i64 x152011_3]) ?_ 3 _ rfl; (with_reducible repeat (first | refine blk_drewN ?_ _ | refine blk_drew ?_ | refine blk_alloc ?_ _)); refine blk_put (cs := #[.int .i64 x155000_2, .int .i64 x155001_2, .int .i64 x152002_3, .int .i64 x152003_3, .int .i64 x152004_3, .int .i64 x152005_3, .int .i64 x152006_3, .int .i64 x152007_3, .int .i64 x152008_3, .int .i64 x152009_3, .int .i64 x152010_3, .int .i64 x152011_3]) ?_ 2 _ rfl; (with_reducible repeat (first | refine blk_drewN ?_ _ | refine blk_drew ?_ | refine blk_alloc ?_ _)); refine blk_put (cs := #[.int .i64 x155000_2, .int .i64 x152001_3, .int .i64 x152002_3, .int .i64 x152003_3, .int .i64 x152004_3, .int .i64 x152005_3, .int .i64 x152006_3, .int .i64 x152007_3, .int .i64 x152008_3, .int .i64 x152009_3, .int .i64 x152010_3, .int .i64 x152011_3]) ?_ 1 _ rfl; (with_reducible repeat (first | refine blk_drewN ?_ _ | refine blk_drew ?_ | refine blk_alloc ?_ _)); refine blk_put (cs := #[.int .i64 x152000_3, .int .i64 x152001_3, .int .i64 x152002_3, .int .i64 x152003_3, .int .i64 x152004_3, .int .i64 x152005_3, .int .i64 x152006_3, .int .i64 x152007_3, .int .i64 x152008_3, .int .i64 x152009_3, .int .i64 x152010_3, .int .i64 x152011_3]) ?_ 0 _ rfl; (with_reducible repeat (first | refine blk_drewN ?_ _ | refine blk_drew ?_ | refine blk_alloc ?_ _)); exact BK151.out) Tryd.underlying24 rfl (by kernel_rfl)) rfl ?_
                    exact ⟨by first | rfl | (simp [errW_none, errW_some] <;> rfl) | (simp [*, errW_none, errW_some] <;> rfl), by repeat (first | (with_reducible first | exact HB.out | apply below_alloc | apply pw_below_drewN | apply below_drew1 | refine below_set ?_ GE150.out | refine below_set ?_ GE151.out | refine below_set ?_ GE154.out) | exact HB.out)⟩

end Go.Proofs.YtmppfpdaglkhkaaDoor.Q
