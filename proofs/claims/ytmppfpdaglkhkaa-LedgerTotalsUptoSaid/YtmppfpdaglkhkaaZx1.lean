import Derived.Test.YtmppfpdaglkhkaaZx0
namespace Go.Proofs.Ytmppfpdaglkhkaa.Z
open Go.RowKit Go.Proofs.YtmppfpdaglkhkaaW.PrintWords Go.Proofs.YtmppfpdaglkhkaaW.PrintLast Go.Proofs.YtmppfpdaglkhkaaW.PrintMore
attribute [local go_sem] max2_int min2_int max_two min_two max_three min_three max_four min_four   -- for this text's walks alone
set_option linter.unusedVariables false
set_option linter.unusedSimpArgs false

-- NOT PRINTED: function 25 (bits_Add64)

/-! ### ledger_wide_plus: function 21 (by hand) -/
def ledger_wide_plus.c (lo x : Int) : Int := (lo + x % 18446744073709551616) / 18446744073709551616
def ledger_wide_plus.s (lo x : Int) : Int := (lo + x % 18446744073709551616) % 18446744073709551616
theorem ledger_wide_plus.at (x y : Int) (hx : 0 ≤ x) (hx1 : x ≤ 18446744073709551615) (w : World) :
  (callFunc 25 #[.int .u64 x, .int .u64 (IntKind.u64.wrap y), .int .u64 0]).run Try.prog w =
   .ok (.value (.tuple #[.int .u64 (ledger_wide_plus.s x y), .int .u64 (ledger_wide_plus.c x y)])) w := by
 rw [Hand.u64_wrap,run_callFunc_extern Try.func25 (by kernel_rfl) (by kernel_rfl) (by kernel_rfl) (e:=add64Entry) (by kernel_rfl),run_add64 x (y % 18446744073709551616) 0 hx (by omega) (by omega) (by omega)]
 simp only [Result.andThen,Int.add_zero,ledger_wide_plus.s,ledger_wide_plus.c]
theorem ledger_wide_plus.bounds (lo x : Int) (h0 : 0 ≤ lo) (h1 : lo ≤ 18446744073709551615) : 0 ≤ ledger_wide_plus.c lo x ∧ ledger_wide_plus.c lo x ≤ 1 ∧ 0 ≤ ledger_wide_plus.s lo x ∧ ledger_wide_plus.s lo x ≤ 18446744073709551615 := by
 unfold ledger_wide_plus.c ledger_wide_plus.s;omega
def ledger_wide_plus.f (a0_0 a0_1 a1 : Int) : Option (Int × Int) := if 0 ≤ a0_1 ∧ a0_1 ≤ 18446744073709551615 then some (wrap64 (wrap64 (a0_0 + a1 / 9223372036854775808) + ledger_wide_plus.c a0_1 a1),ledger_wide_plus.s a0_1 a1) else none
set_option maxRecDepth 100000 in
set_option maxHeartbeats 2000000 in
theorem ledger_wide_plus.calls (a0_0 : Int) (a0_1 : Int) (a1 : Int) (r1 : Int) (r2 : Int) (w : World) (h : ledger_wide_plus.f a0_0 a0_1 a1 = some (r1,r2)) :
  Calls Try.prog 21 #[.agg #[.int .i64 a0_0, .int .u64 a0_1], .int .i64 a1] w fun e w' => e = .returned (.agg #[.int .i64 r1, .int .u64 r2]) ∧ Below w.heap.size w w' := by
 have hu1 := Try.underlying47
 have HB := Aside0.mk (Below.refl w.heap.size w)
 unfold ledger_wide_plus.f at h
 split at h
 case isFalse => cases h
 rename_i hg0
 have had := fun W => ledger_wide_plus.at a0_1 a1 hg0.1 hg0.2 W
 obtain ⟨c0,c1,s0,s1⟩ := ledger_wide_plus.bounds a0_1 a1 hg0.1 hg0.2
 obtain ⟨cc,hcc⟩ : ∃ z,z = ledger_wide_plus.c a0_1 a1 := ⟨_,rfl⟩
 obtain ⟨ss,hss⟩ : ∃ z,z = ledger_wide_plus.s a0_1 a1 := ⟨_,rfl⟩
 simp only [← hcc, ← hss] at had h c0 c1 s0 s1
 simp only [Option.some.injEq,Prod.mk.injEq] at h
 obtain ⟨rfl,rfl⟩ := h
 have hw1 : wrap64 cc = cc := (by unfold wrap64;omega)
 clear hcc hss hg0
 go_enter Try.func21,Try.ntmps21
 go_wp2_with (first | ((with_reducible refine gate_dst (N:=2) rfl ?_);refine box_event ?hg (N:=2) ?hd (cs:=#[.int .i64 a0_0, .int .u64 a0_1]) (t:=47) ?hr ?_;(case hd => rfl);(case hg => rfl);(case hr => first | (go_simp;done) | (go_simp;rfl));intro gb1 hg w3 hbox hb;have n0_ := Aside0.mk (below_step (by repeat (first | (with_reducible first | exact HB.out | apply below_alloc | apply pw_below_drewN | apply below_drew1) | exact HB.out)) hb);have n1_ := Aside0.mk hbox;have n3_ := Aside0.mk ((by rw [hg];exact (below_size (by repeat (first | (with_reducible first | exact HB.out | apply below_alloc | apply pw_below_drewN | apply below_drew1) | exact HB.out))) : w.heap.size ≤ gb1));clear HB;have HB := n0_;have BK1 := n1_;have GE1 := n3_;clear n0_ n1_ n3_;clear hb hbox hg) | ((with_reducible refine gate_dst (N:=4) rfl ?_);refine box_event ?hg (N:=4) ?hd (cs:=#[.int .i64 0, .int .u64 0]) (t:=47) ?hr ?_;(case hd => rfl);(case hg => rfl);(case hr => first | (go_simp;done) | (go_simp;rfl));intro gb2 hg w4 hbox hb;have n0_ := Aside0.mk (blk_below (g:=gb1) (o:=.cells #[.int .i64 a0_0, .int .u64 a0_1] 47 (0,0)) (by (with_reducible repeat (first | refine blk_drewN ?_ _ | refine blk_drew ?_ | refine blk_alloc ?_ _));exact BK1.out) hb);have n1_ := Aside0.mk (below_step (by repeat (first | (with_reducible first | exact HB.out | apply below_alloc | apply pw_below_drewN | apply below_drew1 | refine below_set ?_ GE1.out) | exact HB.out)) hb);have n2_ := Aside0.mk (hbox);have n4_ := Aside0.mk ((by rw [hg];exact (below_size (by repeat (first | (with_reducible first | exact HB.out | apply below_alloc | apply pw_below_drewN | apply below_drew1 | refine below_set ?_ GE1.out) | exact HB.out))) : w.heap.size ≤ gb2));have hnb : gb1 ≠ gb2 := (by rw [hg];exact Nat.ne_of_lt (blk_lt (g:=gb1) (o:=.cells #[.int .i64 a0_0, .int .u64 a0_1] 47 (0,0)) (by (with_reducible repeat (first | refine blk_drewN ?_ _ | refine blk_drew ?_ | refine blk_alloc ?_ _));exact BK1.out)));have hnc := hnb.symm;clear BK1;clear HB;have BK1 := n0_;have HB := n1_;have BK2 := n2_;have GE2 := n4_;clear n0_ n1_ n2_ n4_;clear hb hbox hg;have hc0 : w4.cell? ⟨gb1,0,none⟩ = some (.int .i64 a0_0) := (blk_cell BK1.out 0).trans rfl;have hc1 : w4.cell? ⟨gb1,1,none⟩ = some (.int .u64 a0_1) := (blk_cell BK1.out 1).trans rfl;have hd0 : w4.cell? ⟨gb2,0,none⟩ = some (.int .i64 0) := (blk_cell BK2.out 0).trans rfl;have hd1 : w4.cell? ⟨gb2,1,none⟩ = some (.int .u64 0) := (blk_cell BK2.out 1).trans rfl;have hf1 := blk_frozen BK2.out 0;have hf2 := blk_frozen BK2.out 1))
 refine bodyPost_ret (results_cell_row rfl _ _ gb2 47 #[.int .i64 (wrap64 (wrap64 (a0_0 + a1 / 9223372036854775808) + cc)), .int .u64 ss] (0,0) _ rfl (by (with_reducible repeat (first | refine blk_drewN ?_ _ | refine blk_drew ?_ | refine blk_alloc ?_ _));refine blk_put (cs:=#[.int .i64 (wrap64 (wrap64 (a0_0 + a1 / 9223372036854775808) + cc)), .int .u64 0]) ?_ 1 _ rfl;(with_reducible repeat (first | refine blk_drewN ?_ _ | refine blk_drew ?_ | refine blk_alloc ?_ _));refine blk_put (cs:=#[.int .i64 0, .int .u64 0]) ?_ 0 _ rfl;(with_reducible repeat (first | refine blk_drewN ?_ _ | refine blk_drew ?_ | refine blk_alloc ?_ _));exact BK2.out) Try.underlying47 rfl (by kernel_rfl)) rfl ?_
 exact ⟨rfl,by repeat (first | (with_reducible first | exact HB.out | apply below_alloc | apply pw_below_drewN | apply below_drew1 | refine below_set ?_ GE1.out | refine below_set ?_ GE2.out) | exact HB.out)⟩

/-! ### ledger_wide_narrow: function 22 -/
def ledger_wide_narrow.f (a0_0 : Int) (a0_1 : Int) : Option (Int × Bool) := some (wrap64 (a0_1),(a0_0 == ((wrap64 (a0_1)) / 9223372036854775808)))
set_option maxHeartbeats 8000000 in
set_option maxRecDepth 100000 in
theorem ledger_wide_narrow.calls (a0_0 : Int) (a0_1 : Int) (r1 : Int) (r2 : Bool) (w : World) (h : ledger_wide_narrow.f a0_0 a0_1 = some (r1,r2)) :
  Calls Try.prog 22 #[.agg #[.int .i64 a0_0, .int .u64 a0_1]] w fun e w' => e = .returned (.tuple #[.int .i64 r1, .bool r2]) ∧ Below w.heap.size w w' := by
 have hu47 := Try.underlying47
 have HB := Aside0.mk (Below.refl w.heap.size w)
 have H : (some (wrap64 (a0_1),(a0_0 == ((wrap64 (a0_1)) / 9223372036854775808)))) = some (r1,r2) := h
 clear h
 simp only [Option.some.injEq,Prod.mk.injEq] at H
 obtain ⟨rfl,rfl⟩ := H
 go_enter Try.func22,Try.ntmps22
 go_wp2_with (first | ((with_reducible refine gate_dst (N:=1) rfl ?_);refine box_event ?hg (N:=1) ?hd (cs:=#[.int .i64 a0_0, .int .u64 a0_1]) (t:=47) ?hr ?_;(case hd => rfl);(case hg => rfl);(case hr => first | (go_simp;done) | (go_simp;rfl));intro gb101 hg w2 hbox hb;have n0_ := Aside0.mk (below_step (by repeat (first | (with_reducible first | exact HB.out | apply below_alloc | apply pw_below_drewN | apply below_drew1) | exact HB.out)) hb);have n1_ := Aside0.mk (hbox);have n2_ := Aside0.mk ((by rw [hg];exact (below_size (by repeat (first | (with_reducible first | exact HB.out | apply below_alloc | apply pw_below_drewN | apply below_drew1) | exact HB.out))) : w.heap.size ≤ gb101));have n3_ := Aside0.mk ((by rw [hg];exact (below_size (by repeat (first | (with_reducible first | exact HB.out | apply below_alloc | apply pw_below_drewN | apply below_drew1) | exact HB.out))) : w.heap.size ≤ gb101));clear HB;have HB := n0_;have BK101 := n1_;have GW101 := n2_;have GE101 := n3_;clear n0_ n1_ n2_ n3_;clear hb hbox hg;have hcz3_0 : w2.cell? ⟨gb101,0,none⟩ = some (.int .i64 a0_0) := (blk_cell BK101.out 0).trans rfl;have hcz3_1 : w2.cell? ⟨gb101,1,none⟩ = some (.int .u64 a0_1) := (blk_cell BK101.out 1).trans rfl;have hfz3_0 := blk_frozen BK101.out 0;have hfz3_1 := blk_frozen BK101.out 1))
 repeat (go_quiet (first | ((with_reducible refine gate_dst (N:=1) rfl ?_);refine box_event ?hg (N:=1) ?hd (cs:=#[.int .i64 a0_0, .int .u64 a0_1]) (t:=47) ?hr ?_;(case hd => rfl);(case hg => rfl);(case hr => first | (go_simp;done) | (go_simp;rfl));intro gb101 hg w2 hbox hb;have n0_ := Aside0.mk (below_step (by repeat (first | (with_reducible first | exact HB.out | apply below_alloc | apply pw_below_drewN | apply below_drew1) | exact HB.out)) hb);have n1_ := Aside0.mk (hbox);have n2_ := Aside0.mk ((by rw [hg];exact (below_size (by repeat (first | (with_reducible first | exact HB.out | apply below_alloc | apply pw_below_drewN | apply below_drew1) | exact HB.out))) : w.heap.size ≤ gb101));have n3_ := Aside0.mk ((by rw [hg];exact (below_size (by repeat (first | (with_reducible first | exact HB.out | apply below_alloc | apply pw_below_drewN | apply below_drew1) | exact HB.out))) : w.heap.size ≤ gb101));clear HB;have HB := n0_;have BK101 := n1_;have GW101 := n2_;have GE101 := n3_;clear n0_ n1_ n2_ n3_;clear hb hbox hg;have hcz3_0 : w2.cell? ⟨gb101,0,none⟩ = some (.int .i64 a0_0) := (blk_cell BK101.out 0).trans rfl;have hcz3_1 : w2.cell? ⟨gb101,1,none⟩ = some (.int .u64 a0_1) := (blk_cell BK101.out 1).trans rfl;have hfz3_0 := blk_frozen BK101.out 0;have hfz3_1 := blk_frozen BK101.out 1));try go_wp2_with (first | ((with_reducible refine gate_dst (N:=1) rfl ?_);refine box_event ?hg (N:=1) ?hd (cs:=#[.int .i64 a0_0, .int .u64 a0_1]) (t:=47) ?hr ?_;(case hd => rfl);(case hg => rfl);(case hr => first | (go_simp;done) | (go_simp;rfl));intro gb101 hg w2 hbox hb;have n0_ := Aside0.mk (below_step (by repeat (first | (with_reducible first | exact HB.out | apply below_alloc | apply pw_below_drewN | apply below_drew1) | exact HB.out)) hb);have n1_ := Aside0.mk (hbox);have n2_ := Aside0.mk ((by rw [hg];exact (below_size (by repeat (first | (with_reducible first | exact HB.out | apply below_alloc | apply pw_below_drewN | apply below_drew1) | exact HB.out))) : w.heap.size ≤ gb101));have n3_ := Aside0.mk ((by rw [hg];exact (below_size (by repeat (first | (with_reducible first | exact HB.out | apply below_alloc | apply pw_below_drewN | apply below_drew1) | exact HB.out))) : w.heap.size ≤ gb101));clear HB;have HB := n0_;have BK101 := n1_;have GW101 := n2_;have GE101 := n3_;clear n0_ n1_ n2_ n3_;clear hb hbox hg;have hcz3_0 : w2.cell? ⟨gb101,0,none⟩ = some (.int .i64 a0_0) := (blk_cell BK101.out 0).trans rfl;have hcz3_1 : w2.cell? ⟨gb101,1,none⟩ = some (.int .u64 a0_1) := (blk_cell BK101.out 1).trans rfl;have hfz3_0 := blk_frozen BK101.out 0;have hfz3_1 := blk_frozen BK101.out 1)))
 go_ret2
 exact ⟨by first | rfl | (simp [errW_none,errW_some] <;> rfl) | (simp [*,errW_none,errW_some] <;> rfl),by repeat (first | (with_reducible first | exact HB.out | apply below_alloc | apply pw_below_drewN | apply below_drew1 | refine below_set ?_ GE101.out) | exact HB.out)⟩

/-! ### ledger_Total: function 14 -/
mutual
def ledger_Total.l0 : Nat → List (S32) → Int → Int → Int → Int → Int → Int → Int → Int → Int → Int → Int → Int → Int → Option (Int × Int × Int × Int × Int × Int × Int × Int × Int × Int × Int × Int × Bool)
 | 0,_,_,_,_,_,_,_,_,_,_,_,_,_,_ => none
 | k + 1,x0,x11,x104000,x104001,x104002,x104003,x104004,x104005,x104006,x104007,x104008,x104009,x104010,x104011 => if x11 < 12 then (ledger_Total.l1 k x0 x11 x11 x0 (x0.length : Int) 0 x104000 x104001 x104002 x104003 x104004 x104005 x104006 x104007 x104008 x104009 x104010 x104011 0 0) else (some (x104000,x104001,x104002,x104003,x104004,x104005,x104006,x104007,x104008,x104009,x104010,x104011,true))
def ledger_Total.l1 : Nat → List (S32) → Int → Int → List (S32) → Int → Int → Int → Int → Int → Int → Int → Int → Int → Int → Int → Int → Int → Int → Int → Int → Option (Int × Int × Int × Int × Int × Int × Int × Int × Int × Int × Int × Int × Bool)
 | 0,_,_,_,_,_,_,_,_,_,_,_,_,_,_,_,_,_,_,_,_ => none
 | k + 1,x0,x5,x11,x14,x15,x16,x104000,x104001,x104002,x104003,x104004,x104005,x104006,x104007,x104008,x104009,x104010,x104011,x105000,x105001 => if x16 < x15 then (if 0 ≤ x16 then (if x16 < (x14.length : Int) then (if 0 ≤ x5 then (if x5 < 12 then ((ledger_wide_plus.f x105000 x105001 (selI [(rd_T32 x14 x16).f0.f0,(rd_T32 x14 x16).f0.f1,(rd_T32 x14 x16).f0.f2,(rd_T32 x14 x16).f0.f3,(rd_T32 x14 x16).f0.f4,(rd_T32 x14 x16).f0.f5,(rd_T32 x14 x16).f0.f6,(rd_T32 x14 x16).f0.f7,(rd_T32 x14 x16).f0.f8,(rd_T32 x14 x16).f0.f9,(rd_T32 x14 x16).f0.f10,(rd_T32 x14 x16).f0.f11] x5)).bind fun bt108 => (ledger_Total.l1 k x0 x5 x11 x14 x15 (wrap64 (x16 + 1)) x104000 x104001 x104002 x104003 x104004 x104005 x104006 x104007 x104008 x104009 x104010 x104011 bt108.1 bt108.2)) else (none)) else (none)) else (none)) else (none)) else ((ledger_wide_narrow.f x105000 x105001).bind fun bt110 => (if bt110.2 = true then (if 0 ≤ x5 then (if x5 < 12 then (ledger_Total.l0 k x0 (wrap64 (x11 + 1)) (putI x5 0 bt110.1 x104000) (putI x5 1 bt110.1 x104001) (putI x5 2 bt110.1 x104002) (putI x5 3 bt110.1 x104003) (putI x5 4 bt110.1 x104004) (putI x5 5 bt110.1 x104005) (putI x5 6 bt110.1 x104006) (putI x5 7 bt110.1 x104007) (putI x5 8 bt110.1 x104008) (putI x5 9 bt110.1 x104009) (putI x5 10 bt110.1 x104010) (putI x5 11 bt110.1 x104011)) else (none)) else (none)) else (some (0,0,0,0,0,0,0,0,0,0,0,0,false))))
end
def ledger_Total.f (k : Nat) (l0 : List (S32)) : Option (Int × Int × Int × Int × Int × Int × Int × Int × Int × Int × Int × Int × Bool) := ledger_Total.l0 k l0 0 0 0 0 0 0 0 0 0 0 0 0 0
theorem ledger_Total.mono_l : ∀ k,(∀ y0 y1 y2 y3 y4 y5 y6 y7 y8 y9 y10 y11 y12 y13,LeO (ledger_Total.l0 k y0 y1 y2 y3 y4 y5 y6 y7 y8 y9 y10 y11 y12 y13) (ledger_Total.l0 (k + 1) y0 y1 y2 y3 y4 y5 y6 y7 y8 y9 y10 y11 y12 y13)) ∧ (∀ y0 y1 y2 y3 y4 y5 y6 y7 y8 y9 y10 y11 y12 y13 y14 y15 y16 y17 y18 y19,LeO (ledger_Total.l1 k y0 y1 y2 y3 y4 y5 y6 y7 y8 y9 y10 y11 y12 y13 y14 y15 y16 y17 y18 y19) (ledger_Total.l1 (k + 1) y0 y1 y2 y3 y4 y5 y6 y7 y8 y9 y10 y11 y12 y13 y14 y15 y16 y17 y18 y19))
 | 0 => ⟨fun _ _ _ _ _ _ _ _ _ _ _ _ _ _ r h => by simp [ledger_Total.l0] at h,fun _ _ _ _ _ _ _ _ _ _ _ _ _ _ _ _ _ _ _ _ r h => by simp [ledger_Total.l1] at h⟩
 | k + 1 => by
  obtain ⟨ih0,ih1⟩ := ledger_Total.mono_l k
  refine ⟨?_,?_⟩
  ·
   intro y0 y1 y2 y3 y4 y5 y6 y7 y8 y9 y10 y11 y12 y13
   unfold ledger_Total.l0
   repeat' first
   | (with_reducible exact ih0 _ _ _ _ _ _ _ _ _ _ _ _ _ _)
   | (with_reducible exact ih1 _ _ _ _ _ _ _ _ _ _ _ _ _ _ _ _ _ _ _ _)
   | (with_reducible exact LeO.refl _)
   | (with_reducible exact LeO.none _)
   | (with_reducible refine LeO.ite ?_ ?_)
   | (with_reducible refine LeO.bind ?_ (fun _ => ?_))
   | exact ih0 _ _ _ _ _ _ _ _ _ _ _ _ _ _
   | exact ih1 _ _ _ _ _ _ _ _ _ _ _ _ _ _ _ _ _ _ _ _
   | exact LeO.none _
   | refine LeO.ite ?_ ?_
   | refine LeO.bind ?_ (fun _ => ?_)
  ·
   intro y0 y1 y2 y3 y4 y5 y6 y7 y8 y9 y10 y11 y12 y13 y14 y15 y16 y17 y18 y19
   unfold ledger_Total.l1
   repeat' first
   | (with_reducible exact ih0 _ _ _ _ _ _ _ _ _ _ _ _ _ _)
   | (with_reducible exact ih1 _ _ _ _ _ _ _ _ _ _ _ _ _ _ _ _ _ _ _ _)
   | (with_reducible exact LeO.refl _)
   | (with_reducible exact LeO.none _)
   | (with_reducible refine LeO.ite ?_ ?_)
   | (with_reducible refine LeO.bind ?_ (fun _ => ?_))
   | exact ih0 _ _ _ _ _ _ _ _ _ _ _ _ _ _
   | exact ih1 _ _ _ _ _ _ _ _ _ _ _ _ _ _ _ _ _ _ _ _
   | exact LeO.none _
   | refine LeO.ite ?_ ?_
   | refine LeO.bind ?_ (fun _ => ?_)
theorem ledger_Total.mono : ∀ a0 k,LeO (ledger_Total.f k a0) (ledger_Total.f (k + 1) a0) := by
 intro a0 k
 obtain ⟨ih0,ih1⟩ := ledger_Total.mono_l k
 unfold ledger_Total.f
 repeat' first
   | (with_reducible exact ih0 _ _ _ _ _ _ _ _ _ _ _ _ _ _)
   | (with_reducible exact ih1 _ _ _ _ _ _ _ _ _ _ _ _ _ _ _ _ _ _ _ _)
   | (with_reducible exact LeO.refl _)
   | (with_reducible exact LeO.none _)
   | (with_reducible refine LeO.ite ?_ ?_)
   | (with_reducible refine LeO.bind ?_ (fun _ => ?_))
   | exact ih0 _ _ _ _ _ _ _ _ _ _ _ _ _ _
   | exact ih1 _ _ _ _ _ _ _ _ _ _ _ _ _ _ _ _ _ _ _ _
   | exact LeO.none _
   | refine LeO.ite ?_ ?_
   | refine LeO.bind ?_ (fun _ => ?_)
set_option maxHeartbeats 8000000 in
set_option maxRecDepth 100000 in
theorem ledger_Total.calls (k : Nat) (A0 : Option Addr) (c0 : Nat) (l0 : List (S32)) (r1 : Int) (r2 : Int) (r3 : Int) (r4 : Int) (r5 : Int) (r6 : Int) (r7 : Int) (r8 : Int) (r9 : Int) (r10 : Int) (r11 : Int) (r12 : Int) (r13 : Bool) (w : World) (hr0 : Kd.C k32 w A0 l0.length l0) (hc0 : l0.length ≤ c0) (h : ledger_Total.f k l0 = some (r1,r2,r3,r4,r5,r6,r7,r8,r9,r10,r11,r12,r13)) :
  Calls Try.prog 14 #[.slice A0 l0.length c0] w fun e w' => e = .returned (.tuple #[.agg #[.int .i64 r1, .int .i64 r2, .int .i64 r3, .int .i64 r4, .int .i64 r5, .int .i64 r6, .int .i64 r7, .int .i64 r8, .int .i64 r9, .int .i64 r10, .int .i64 r11, .int .i64 r12], .bool r13]) ∧ Below w.heap.size w w' := by
 have hu32 := Try.underlying32
 have hu47 := Try.underlying47
 have HR0 := Aside0.mk hr0
 have HC0 := Aside0.mk hc0
 clear hr0 hc0
 have HB := Aside0.mk (Below.refl w.heap.size w)
 have H : (ledger_Total.l0 k l0 0 0 0 0 0 0 0 0 0 0 0 0 0) = some (r1,r2,r3,r4,r5,r6,r7,r8,r9,r10,r11,r12,r13) := h
 clear h
 have H' := Aside0.mk H
 clear H
 go_enter Try.func14,Try.ntmps14
 go_wp2_with (first | ((with_reducible refine gate_dst (N:=2) rfl ?_);refine box_event ?hg (N:=2) ?hd (cs:=#[.int .i64 0, .int .i64 0, .int .i64 0, .int .i64 0, .int .i64 0, .int .i64 0, .int .i64 0, .int .i64 0, .int .i64 0, .int .i64 0, .int .i64 0, .int .i64 0]) (t:=32) ?hr ?_;(case hd => rfl);(case hg => rfl);(case hr => first | (go_simp;done) | (go_simp;rfl));intro gb102 hg w2 hbox hb;have n0_ := Aside0.mk (below_step (by repeat (first | (with_reducible first | exact HB.out | apply below_alloc | apply pw_below_drewN | apply below_drew1) | exact HB.out)) hb);have n1_ := Aside0.mk (hbox);have n2_ := Aside0.mk ((by rw [hg];exact (below_size (by repeat (first | (with_reducible first | exact HB.out | apply below_alloc | apply pw_below_drewN | apply below_drew1) | exact HB.out))) : w.heap.size ≤ gb102));have n3_ := Aside0.mk ((by rw [hg];exact (below_size (by repeat (first | (with_reducible first | exact HB.out | apply below_alloc | apply pw_below_drewN | apply below_drew1) | exact HB.out))) : w.heap.size ≤ gb102));clear HB;have HB := n0_;have BK102 := n1_;have GW102 := n2_;have GE102 := n3_;clear n0_ n1_ n2_ n3_;clear hb hbox hg) | ((with_reducible refine gate_dst (N:=4) rfl ?_);refine box_event ?hg (N:=4) ?hd (cs:=#[.int .i64 0, .int .i64 0, .int .i64 0, .int .i64 0, .int .i64 0, .int .i64 0, .int .i64 0, .int .i64 0, .int .i64 0, .int .i64 0, .int .i64 0, .int .i64 0]) (t:=32) ?hr ?_;(case hd => rfl);(case hg => rfl);(case hr => first | (go_simp;done) | (go_simp;rfl));intro gb103 hg w3 hbox hb;have n0_ := Aside0.mk (blk_below (g:=gb102) (o:=.cells #[.int .i64 0, .int .i64 0, .int .i64 0, .int .i64 0, .int .i64 0, .int .i64 0, .int .i64 0, .int .i64 0, .int .i64 0, .int .i64 0, .int .i64 0, .int .i64 0] 32 (0,0)) (by (with_reducible repeat (first | refine blk_drewN ?_ _ | refine blk_drew ?_ | refine blk_alloc ?_ _));exact BK102.out) hb);have n1_ := Aside0.mk (below_step (by repeat (first | (with_reducible first | exact HB.out | apply below_alloc | apply pw_below_drewN | apply below_drew1 | refine below_set ?_ GE102.out) | exact HB.out)) hb);have n2_ := Aside0.mk (hbox);have n3_ := Aside0.mk ((by rw [hg];exact (below_size (by repeat (first | (with_reducible first | exact HB.out | apply below_alloc | apply pw_below_drewN | apply below_drew1 | refine below_set ?_ GE102.out) | exact HB.out))) : w.heap.size ≤ gb103));have n4_ := Aside0.mk ((by rw [hg];exact (below_size (by repeat (first | (with_reducible first | exact HB.out | apply below_alloc | apply pw_below_drewN | apply below_drew1 | refine below_set ?_ GE102.out) | exact HB.out))) : w.heap.size ≤ gb103));have n5_ := Aside0.mk ((by rw [hg];exact Nat.ne_of_lt (blk_lt (g:=gb102) (o:=.cells #[.int .i64 0, .int .i64 0, .int .i64 0, .int .i64 0, .int .i64 0, .int .i64 0, .int .i64 0, .int .i64 0, .int .i64 0, .int .i64 0, .int .i64 0, .int .i64 0] 32 (0,0)) (by (with_reducible repeat (first | refine blk_drewN ?_ _ | refine blk_drew ?_ | refine blk_alloc ?_ _));exact BK102.out)) : gb102 ≠ gb103));have n6_ := Aside0.mk ((by rw [hg];exact Nat.ne_of_gt (blk_lt (g:=gb102) (o:=.cells #[.int .i64 0, .int .i64 0, .int .i64 0, .int .i64 0, .int .i64 0, .int .i64 0, .int .i64 0, .int .i64 0, .int .i64 0, .int .i64 0, .int .i64 0, .int .i64 0] 32 (0,0)) (by (with_reducible repeat (first | refine blk_drewN ?_ _ | refine blk_drew ?_ | refine blk_alloc ?_ _));exact BK102.out)) : gb103 ≠ gb102));clear BK102;clear HB;have BK102 := n0_;have HB := n1_;have BK103 := n2_;have GW103 := n3_;have GE103 := n4_;have NB102_103 := n5_;have NB103_102 := n6_;clear n0_ n1_ n2_ n3_ n4_ n5_ n6_;clear hb hbox hg))
 go_loopg [11] k (fun kq v11 w' => ∃ (x11_1 : Int) (x103000_1 : Int) (x103001_1 : Int) (x103002_1 : Int) (x103003_1 : Int) (x103004_1 : Int) (x103005_1 : Int) (x103006_1 : Int) (x103007_1 : Int) (x103008_1 : Int) (x103009_1 : Int) (x103010_1 : Int) (x103011_1 : Int) (x104000_1 : Int) (x104001_1 : Int) (x104002_1 : Int) (x104003_1 : Int) (x104004_1 : Int) (x104005_1 : Int) (x104006_1 : Int) (x104007_1 : Int) (x104008_1 : Int) (x104009_1 : Int) (x104010_1 : Int) (x104011_1 : Int),v11 = .int .i64 x11_1 ∧ Aside0 (ledger_Total.l0 kq l0 x11_1 x104000_1 x104001_1 x104002_1 x104003_1 x104004_1 x104005_1 x104006_1 x104007_1 x104008_1 x104009_1 x104010_1 x104011_1 = some (r1,r2,r3,r4,r5,r6,r7,r8,r9,r10,r11,r12,r13)) ∧ Aside0 (kq ≤ k) ∧ Aside0 (w'.heap[gb102]? = some (.cells #[.int .i64 x103000_1, .int .i64 x103001_1, .int .i64 x103002_1, .int .i64 x103003_1, .int .i64 x103004_1, .int .i64 x103005_1, .int .i64 x103006_1, .int .i64 x103007_1, .int .i64 x103008_1, .int .i64 x103009_1, .int .i64 x103010_1, .int .i64 x103011_1] 32 (0,0))) ∧ Aside0 (w'.heap[gb103]? = some (.cells #[.int .i64 x104000_1, .int .i64 x104001_1, .int .i64 x104002_1, .int .i64 x104003_1, .int .i64 x104004_1, .int .i64 x104005_1, .int .i64 x104006_1, .int .i64 x104007_1, .int .i64 x104008_1, .int .i64 x104009_1, .int .i64 x104010_1, .int .i64 x104011_1] 32 (0,0))) ∧ Aside0 (Below w.heap.size w w'))
 case atStart => exact ⟨(0),(0),(0),(0),(0),(0),(0),(0),(0),(0),(0),(0),(0),(0),(0),(0),(0),(0),(0),(0),(0),(0),(0),(0),(0),(by first | rfl | (simp;done) | (simp [*];done)),H',⟨Nat.le_refl _⟩,⟨by (with_reducible repeat (first | refine blk_drewN ?_ _ | refine blk_drew ?_ | refine blk_alloc ?_ _));exact BK102.out⟩,⟨by (with_reducible repeat (first | refine blk_drewN ?_ _ | refine blk_drew ?_ | refine blk_alloc ?_ _));exact BK103.out⟩,⟨by repeat (first | (with_reducible first | exact HB.out | apply below_alloc | apply pw_below_drewN | apply below_drew1 | refine below_set ?_ GE102.out | refine below_set ?_ GE103.out) | exact HB.out)⟩⟩
 case round =>
  clear H'
  try clear c1
  try clear p2
  obtain ⟨x11_1,x103000_1,x103001_1,x103002_1,x103003_1,x103004_1,x103005_1,x103006_1,x103007_1,x103008_1,x103009_1,x103010_1,x103011_1,x104000_1,x104001_1,x104002_1,x104003_1,x104004_1,x104005_1,x104006_1,x104007_1,x104008_1,x104009_1,x104010_1,x104011_1,rfl,HA,HK1,BK102,BK103,HB⟩ := hrel
  cases gk with
  | zero => exact absurd HA.out (by simp [ledger_Total.l0])
  | succ k1 =>
   have H := HA.out
   clear HA
   simp only [ledger_Total.l0] at H
   by_cases c4 : x11_1 < 12
   ·
    rw [if_pos c4] at H
    have c4b0 : decide (x11_1 < 12) = true := decide_eq_true c4
    clear c4
    have H' := Aside0.mk H
    clear H
    go_wp2_with (first | ((with_reducible refine gate_dst (N:=6) rfl ?_);refine box_event ?hg (N:=6) ?hd (cs:=#[.int .i64 0, .int .u64 0]) (t:=47) ?hr ?_;(case hd => rfl);(case hg => rfl);(case hr => first | (go_simp;done) | (go_simp;rfl));intro gb104 hg w5 hbox hb;have n0_ := Aside0.mk (blk_below (g:=gb102) (o:=.cells #[.int .i64 x103000_1, .int .i64 x103001_1, .int .i64 x103002_1, .int .i64 x103003_1, .int .i64 x103004_1, .int .i64 x103005_1, .int .i64 x103006_1, .int .i64 x103007_1, .int .i64 x103008_1, .int .i64 x103009_1, .int .i64 x103010_1, .int .i64 x103011_1] 32 (0,0)) (by (with_reducible repeat (first | refine blk_drewN ?_ _ | refine blk_drew ?_ | refine blk_alloc ?_ _));exact BK102.out) hb);have n1_ := Aside0.mk (blk_below (g:=gb103) (o:=.cells #[.int .i64 x104000_1, .int .i64 x104001_1, .int .i64 x104002_1, .int .i64 x104003_1, .int .i64 x104004_1, .int .i64 x104005_1, .int .i64 x104006_1, .int .i64 x104007_1, .int .i64 x104008_1, .int .i64 x104009_1, .int .i64 x104010_1, .int .i64 x104011_1] 32 (0,0)) (by (with_reducible repeat (first | refine blk_drewN ?_ _ | refine blk_drew ?_ | refine blk_alloc ?_ _));exact BK103.out) hb);have n2_ := Aside0.mk (below_step (by repeat (first | (with_reducible first | exact HB.out | apply below_alloc | apply pw_below_drewN | apply below_drew1 | refine below_set ?_ GE102.out | refine below_set ?_ GE103.out) | exact HB.out)) hb);have n3_ := Aside0.mk (hbox);have n4_ := Aside0.mk ((by rw [hg];exact (below_size (by repeat (first | (with_reducible first | exact HB.out | apply below_alloc | apply pw_below_drewN | apply below_drew1 | refine below_set ?_ GE102.out | refine below_set ?_ GE103.out) | exact HB.out))) : w.heap.size ≤ gb104));have n5_ := Aside0.mk ((by rw [hg];exact (below_size (by repeat (first | (with_reducible first | exact HB.out | apply below_alloc | apply pw_below_drewN | apply below_drew1 | refine below_set ?_ GE102.out | refine below_set ?_ GE103.out) | exact HB.out))) : w.heap.size ≤ gb104));have n6_ := Aside0.mk ((by rw [hg];exact Nat.ne_of_lt (blk_lt (g:=gb102) (o:=.cells #[.int .i64 x103000_1, .int .i64 x103001_1, .int .i64 x103002_1, .int .i64 x103003_1, .int .i64 x103004_1, .int .i64 x103005_1, .int .i64 x103006_1, .int .i64 x103007_1, .int .i64 x103008_1, .int .i64 x103009_1, .int .i64 x103010_1, .int .i64 x103011_1] 32 (0,0)) (by (with_reducible repeat (first | refine blk_drewN ?_ _ | refine blk_drew ?_ | refine blk_alloc ?_ _));exact BK102.out)) : gb102 ≠ gb104));have n7_ := Aside0.mk ((by rw [hg];exact Nat.ne_of_gt (blk_lt (g:=gb102) (o:=.cells #[.int .i64 x103000_1, .int .i64 x103001_1, .int .i64 x103002_1, .int .i64 x103003_1, .int .i64 x103004_1, .int .i64 x103005_1, .int .i64 x103006_1, .int .i64 x103007_1, .int .i64 x103008_1, .int .i64 x103009_1, .int .i64 x103010_1, .int .i64 x103011_1] 32 (0,0)) (by (with_reducible repeat (first | refine blk_drewN ?_ _ | refine blk_drew ?_ | refine blk_alloc ?_ _));exact BK102.out)) : gb104 ≠ gb102));have n8_ := Aside0.mk ((by rw [hg];exact Nat.ne_of_lt (blk_lt (g:=gb103) (o:=.cells #[.int .i64 x104000_1, .int .i64 x104001_1, .int .i64 x104002_1, .int .i64 x104003_1, .int .i64 x104004_1, .int .i64 x104005_1, .int .i64 x104006_1, .int .i64 x104007_1, .int .i64 x104008_1, .int .i64 x104009_1, .int .i64 x104010_1, .int .i64 x104011_1] 32 (0,0)) (by (with_reducible repeat (first | refine blk_drewN ?_ _ | refine blk_drew ?_ | refine blk_alloc ?_ _));exact BK103.out)) : gb103 ≠ gb104));have n9_ := Aside0.mk ((by rw [hg];exact Nat.ne_of_gt (blk_lt (g:=gb103) (o:=.cells #[.int .i64 x104000_1, .int .i64 x104001_1, .int .i64 x104002_1, .int .i64 x104003_1, .int .i64 x104004_1, .int .i64 x104005_1, .int .i64 x104006_1, .int .i64 x104007_1, .int .i64 x104008_1, .int .i64 x104009_1, .int .i64 x104010_1, .int .i64 x104011_1] 32 (0,0)) (by (with_reducible repeat (first | refine blk_drewN ?_ _ | refine blk_drew ?_ | refine blk_alloc ?_ _));exact BK103.out)) : gb104 ≠ gb103));clear BK102;clear BK103;clear HB;have BK102 := n0_;have BK103 := n1_;have HB := n2_;have BK104 := n3_;have GW104 := n4_;have GE104 := n5_;have NB102_104 := n6_;have NB104_102 := n7_;have NB103_104 := n8_;have NB104_103 := n9_;clear n0_ n1_ n2_ n3_ n4_ n5_ n6_ n7_ n8_ n9_;clear hb hbox hg))
    go_loopg [16] k1 (fun kq v16 w' => ∃ (x16_2 : Int) (x105000_2 : Int) (x105001_2 : Int),v16 = .int .i64 x16_2 ∧ Aside0 (ledger_Total.l1 kq l0 x11_1 x11_1 l0 (l0.length : Int) x16_2 x104000_1 x104001_1 x104002_1 x104003_1 x104004_1 x104005_1 x104006_1 x104007_1 x104008_1 x104009_1 x104010_1 x104011_1 x105000_2 x105001_2 = some (r1,r2,r3,r4,r5,r6,r7,r8,r9,r10,r11,r12,r13)) ∧ Aside0 (kq ≤ k1) ∧ Aside0 (w'.heap[gb102]? = some (.cells #[.int .i64 x103000_1, .int .i64 x103001_1, .int .i64 x103002_1, .int .i64 x103003_1, .int .i64 x103004_1, .int .i64 x103005_1, .int .i64 x103006_1, .int .i64 x103007_1, .int .i64 x103008_1, .int .i64 x103009_1, .int .i64 x103010_1, .int .i64 x103011_1] 32 (0,0))) ∧ Aside0 (w'.heap[gb103]? = some (.cells #[.int .i64 x104000_1, .int .i64 x104001_1, .int .i64 x104002_1, .int .i64 x104003_1, .int .i64 x104004_1, .int .i64 x104005_1, .int .i64 x104006_1, .int .i64 x104007_1, .int .i64 x104008_1, .int .i64 x104009_1, .int .i64 x104010_1, .int .i64 x104011_1] 32 (0,0))) ∧ Aside0 (w'.heap[gb104]? = some (.cells #[.int .i64 x105000_2, .int .u64 x105001_2] 47 (0,0))) ∧ Aside0 (Below w.heap.size w w'))
    case atStart => exact ⟨(0),(0),(0),(by first | rfl | (simp;done) | (simp [*];done)),H',⟨Nat.le_refl _⟩,⟨by (with_reducible repeat (first | refine blk_drewN ?_ _ | refine blk_drew ?_ | refine blk_alloc ?_ _));exact BK102.out⟩,⟨by (with_reducible repeat (first | refine blk_drewN ?_ _ | refine blk_drew ?_ | refine blk_alloc ?_ _));exact BK103.out⟩,⟨by (with_reducible repeat (first | refine blk_drewN ?_ _ | refine blk_drew ?_ | refine blk_alloc ?_ _));exact BK104.out⟩,⟨by repeat (first | (with_reducible first | exact HB.out | apply below_alloc | apply pw_below_drewN | apply below_drew1 | refine below_set ?_ GE102.out | refine below_set ?_ GE103.out | refine below_set ?_ GE104.out) | exact HB.out)⟩⟩
    case round =>
     clear H'
     try clear c1
     try clear p2
     try clear c4
     try clear c4b0
     try clear p2
     obtain ⟨x16_2,x105000_2,x105001_2,rfl,HA,HK2,BK102,BK103,BK104,HB⟩ := hrel
     cases gk with
     | zero => exact absurd HA.out (by simp [ledger_Total.l1])
     | succ k2 =>
      have H := HA.out
      clear HA
      simp only [ledger_Total.l1] at H
      by_cases c6 : x16_2 < (l0.length : Int)
      ·
       rw [if_pos c6] at H
       have c6b0 : decide (x16_2 < (l0.length : Int)) = true := decide_eq_true c6
       clear c6
       by_cases c7 : 0 ≤ x16_2
       ·
        rw [if_pos c7] at H
        have c7b0 : decide (0 ≤ x16_2) = true := decide_eq_true c7
        clear c7
        by_cases c8 : x16_2 < (l0.length : Int)
        ·
         rw [if_pos c8] at H
         have c8b0 : decide (x16_2 < (l0.length : Int)) = true := decide_eq_true c8
         clear c8
         by_cases c9 : 0 ≤ x11_1
         ·
          rw [if_pos c9] at H
          have c9b0 : decide (0 ≤ x11_1) = true := decide_eq_true c9
          clear c9
          by_cases c10 : x11_1 < 12
          ·
           rw [if_pos c10] at H
           have c10b0 : decide (x11_1 < 12) = true := decide_eq_true c10
           clear c10
           replace H := Option.bind_eq_some_iff.mp H
           obtain ⟨⟨t108,t109⟩,A110,H⟩ := H
           replace H : (ledger_Total.l1 k2 l0 x11_1 x11_1 l0 (l0.length : Int) (wrap64 (x16_2 + 1)) x104000_1 x104001_1 x104002_1 x104003_1 x104004_1 x104005_1 x104006_1 x104007_1 x104008_1 x104009_1 x104010_1 x104011_1 t108 t109) = some (r1,r2,r3,r4,r5,r6,r7,r8,r9,r10,r11,r12,r13) := H
           have A11 := Aside0.mk A110
           clear A110
           have H' := Aside0.mk H
           clear H
           have p105 : 0 ≤ (x16_2 : Int) := of_decide_eq_true (by first | (with_reducible assumption) | assumption)
           have q105 : x16_2 < (l0.length : Int) := of_decide_eq_true (by first | (with_reducible assumption) | assumption)
           obtain ⟨ad105,e105,hx105_0,hx105_1,hx105_2,hx105_3,hx105_4,hx105_5,hx105_6,hx105_7,hx105_8,hx105_9,hx105_10,hx105_11⟩ := at_T32 HR0.out x16_2 p105 q105
           cases e105
           replace hx105_0 := (HB.out.cell (World.block_lt_of_cell? w _ hx105_0)).trans hx105_0
           replace hx105_1 := (HB.out.cell (World.block_lt_of_cell? w _ hx105_1)).trans hx105_1
           replace hx105_2 := (HB.out.cell (World.block_lt_of_cell? w _ hx105_2)).trans hx105_2
           replace hx105_3 := (HB.out.cell (World.block_lt_of_cell? w _ hx105_3)).trans hx105_3
           replace hx105_4 := (HB.out.cell (World.block_lt_of_cell? w _ hx105_4)).trans hx105_4
           replace hx105_5 := (HB.out.cell (World.block_lt_of_cell? w _ hx105_5)).trans hx105_5
           replace hx105_6 := (HB.out.cell (World.block_lt_of_cell? w _ hx105_6)).trans hx105_6
           replace hx105_7 := (HB.out.cell (World.block_lt_of_cell? w _ hx105_7)).trans hx105_7
           replace hx105_8 := (HB.out.cell (World.block_lt_of_cell? w _ hx105_8)).trans hx105_8
           replace hx105_9 := (HB.out.cell (World.block_lt_of_cell? w _ hx105_9)).trans hx105_9
           replace hx105_10 := (HB.out.cell (World.block_lt_of_cell? w _ hx105_10)).trans hx105_10
           replace hx105_11 := (HB.out.cell (World.block_lt_of_cell? w _ hx105_11)).trans hx105_11
           replace p105 := eq_true p105
           replace q105 := eq_true q105
           try go_wp2_with (first | ((with_reducible refine gate_dst (N:=8) rfl ?_);refine box_event ?hg (N:=8) ?hd (cs:=#[.int .i64 0, .int .i64 0, .int .i64 0, .int .i64 0, .int .i64 0, .int .i64 0, .int .i64 0, .int .i64 0, .int .i64 0, .int .i64 0, .int .i64 0, .int .i64 0]) (t:=32) ?hr ?_;(case hd => rfl);(case hg => rfl);(case hr => first | (go_simp;done) | (go_simp;rfl));intro gb106 hg w12 hbox hb;have n0_ := Aside0.mk (blk_below (g:=gb102) (o:=.cells #[.int .i64 x103000_1, .int .i64 x103001_1, .int .i64 x103002_1, .int .i64 x103003_1, .int .i64 x103004_1, .int .i64 x103005_1, .int .i64 x103006_1, .int .i64 x103007_1, .int .i64 x103008_1, .int .i64 x103009_1, .int .i64 x103010_1, .int .i64 x103011_1] 32 (0,0)) (by (with_reducible repeat (first | refine blk_drewN ?_ _ | refine blk_drew ?_ | refine blk_alloc ?_ _));exact BK102.out) hb);have n1_ := Aside0.mk (blk_below (g:=gb103) (o:=.cells #[.int .i64 x104000_1, .int .i64 x104001_1, .int .i64 x104002_1, .int .i64 x104003_1, .int .i64 x104004_1, .int .i64 x104005_1, .int .i64 x104006_1, .int .i64 x104007_1, .int .i64 x104008_1, .int .i64 x104009_1, .int .i64 x104010_1, .int .i64 x104011_1] 32 (0,0)) (by (with_reducible repeat (first | refine blk_drewN ?_ _ | refine blk_drew ?_ | refine blk_alloc ?_ _));exact BK103.out) hb);have n2_ := Aside0.mk (blk_below (g:=gb104) (o:=.cells #[.int .i64 x105000_2, .int .u64 x105001_2] 47 (0,0)) (by (with_reducible repeat (first | refine blk_drewN ?_ _ | refine blk_drew ?_ | refine blk_alloc ?_ _));exact BK104.out) hb);have n3_ := Aside0.mk (below_step (by repeat (first | (with_reducible first | exact HB.out | apply below_alloc | apply pw_below_drewN | apply below_drew1 | refine below_set ?_ GE102.out | refine below_set ?_ GE103.out | refine below_set ?_ GE104.out) | exact HB.out)) hb);have n4_ := Aside0.mk (hbox);have n5_ := Aside0.mk ((by rw [hg];exact (below_size (by repeat (first | (with_reducible first | exact HB.out | apply below_alloc | apply pw_below_drewN | apply below_drew1 | refine below_set ?_ GE102.out | refine below_set ?_ GE103.out | refine below_set ?_ GE104.out) | exact HB.out))) : w.heap.size ≤ gb106));have n6_ := Aside0.mk ((by rw [hg];exact (below_size (by repeat (first | (with_reducible first | exact HB.out | apply below_alloc | apply pw_below_drewN | apply below_drew1 | refine below_set ?_ GE102.out | refine below_set ?_ GE103.out | refine below_set ?_ GE104.out) | exact HB.out))) : w.heap.size ≤ gb106));have n7_ := Aside0.mk ((by rw [hg];exact Nat.ne_of_lt (blk_lt (g:=gb102) (o:=.cells #[.int .i64 x103000_1, .int .i64 x103001_1, .int .i64 x103002_1, .int .i64 x103003_1, .int .i64 x103004_1, .int .i64 x103005_1, .int .i64 x103006_1, .int .i64 x103007_1, .int .i64 x103008_1, .int .i64 x103009_1, .int .i64 x103010_1, .int .i64 x103011_1] 32 (0,0)) (by (with_reducible repeat (first | refine blk_drewN ?_ _ | refine blk_drew ?_ | refine blk_alloc ?_ _));exact BK102.out)) : gb102 ≠ gb106));have n8_ := Aside0.mk ((by rw [hg];exact Nat.ne_of_gt (blk_lt (g:=gb102) (o:=.cells #[.int .i64 x103000_1, .int .i64 x103001_1, .int .i64 x103002_1, .int .i64 x103003_1, .int .i64 x103004_1, .int .i64 x103005_1, .int .i64 x103006_1, .int .i64 x103007_1, .int .i64 x103008_1, .int .i64 x103009_1, .int .i64 x103010_1, .int .i64 x103011_1] 32 (0,0)) (by (with_reducible repeat (first | refine blk_drewN ?_ _ | refine blk_drew ?_ | refine blk_alloc ?_ _));exact BK102.out)) : gb106 ≠ gb102));have n9_ := Aside0.mk ((by rw [hg];exact Nat.ne_of_lt (blk_lt (g:=gb103) (o:=.cells #[.int .i64 x104000_1, .int .i64 x104001_1, .int .i64 x104002_1, .int .i64 x104003_1, .int .i64 x104004_1, .int .i64 x104005_1, .int .i64 x104006_1, .int .i64 x104007_1, .int .i64 x104008_1, .int .i64 x104009_1, .int .i64 x104010_1, .int .i64 x104011_1] 32 (0,0)) (by (with_reducible repeat (first | refine blk_drewN ?_ _ | refine blk_drew ?_ | refine blk_alloc ?_ _));exact BK103.out)) : gb103 ≠ gb106));have n10_ := Aside0.mk ((by rw [hg];exact Nat.ne_of_gt (blk_lt (g:=gb103) (o:=.cells #[.int .i64 x104000_1, .int .i64 x104001_1, .int .i64 x104002_1, .int .i64 x104003_1, .int .i64 x104004_1, .int .i64 x104005_1, .int .i64 x104006_1, .int .i64 x104007_1, .int .i64 x104008_1, .int .i64 x104009_1, .int .i64 x104010_1, .int .i64 x104011_1] 32 (0,0)) (by (with_reducible repeat (first | refine blk_drewN ?_ _ | refine blk_drew ?_ | refine blk_alloc ?_ _));exact BK103.out)) : gb106 ≠ gb103));have n11_ := Aside0.mk ((by rw [hg];exact Nat.ne_of_lt (blk_lt (g:=gb104) (o:=.cells #[.int .i64 x105000_2, .int .u64 x105001_2] 47 (0,0)) (by (with_reducible repeat (first | refine blk_drewN ?_ _ | refine blk_drew ?_ | refine blk_alloc ?_ _));exact BK104.out)) : gb104 ≠ gb106));have n12_ := Aside0.mk ((by rw [hg];exact Nat.ne_of_gt (blk_lt (g:=gb104) (o:=.cells #[.int .i64 x105000_2, .int .u64 x105001_2] 47 (0,0)) (by (with_reducible repeat (first | refine blk_drewN ?_ _ | refine blk_drew ?_ | refine blk_alloc ?_ _));exact BK104.out)) : gb106 ≠ gb104));clear BK102;clear BK103;clear BK104;clear HB;have BK102 := n0_;have BK103 := n1_;have BK104 := n2_;have HB := n3_;have BK106 := n4_;have GW106 := n5_;have GE106 := n6_;have NB102_106 := n7_;have NB106_102 := n8_;have NB103_106 := n9_;have NB106_103 := n10_;have NB104_106 := n11_;have NB106_104 := n12_;clear n0_ n1_ n2_ n3_ n4_ n5_ n6_ n7_ n8_ n9_ n10_ n11_ n12_;clear hb hbox hg;have hnb13 := NB106_102.out;have hnc13 := NB102_106.out;have hnb14 := NB106_103.out;have hnc14 := NB103_106.out;have hnb15 := NB106_104.out;have hnc15 := NB104_106.out;have hcz16_0 : w12.cell? ⟨gb106,0,none⟩ = some (.int .i64 0) := (blk_cell BK106.out 0).trans rfl;have hcz16_1 : w12.cell? ⟨gb106,1,none⟩ = some (.int .i64 0) := (blk_cell BK106.out 1).trans rfl;have hcz16_2 : w12.cell? ⟨gb106,2,none⟩ = some (.int .i64 0) := (blk_cell BK106.out 2).trans rfl;have hcz16_3 : w12.cell? ⟨gb106,3,none⟩ = some (.int .i64 0) := (blk_cell BK106.out 3).trans rfl;have hcz16_4 : w12.cell? ⟨gb106,4,none⟩ = some (.int .i64 0) := (blk_cell BK106.out 4).trans rfl;have hcz16_5 : w12.cell? ⟨gb106,5,none⟩ = some (.int .i64 0) := (blk_cell BK106.out 5).trans rfl;have hcz16_6 : w12.cell? ⟨gb106,6,none⟩ = some (.int .i64 0) := (blk_cell BK106.out 6).trans rfl;have hcz16_7 : w12.cell? ⟨gb106,7,none⟩ = some (.int .i64 0) := (blk_cell BK106.out 7).trans rfl;have hcz16_8 : w12.cell? ⟨gb106,8,none⟩ = some (.int .i64 0) := (blk_cell BK106.out 8).trans rfl;have hcz16_9 : w12.cell? ⟨gb106,9,none⟩ = some (.int .i64 0) := (blk_cell BK106.out 9).trans rfl;have hcz16_10 : w12.cell? ⟨gb106,10,none⟩ = some (.int .i64 0) := (blk_cell BK106.out 10).trans rfl;have hcz16_11 : w12.cell? ⟨gb106,11,none⟩ = some (.int .i64 0) := (blk_cell BK106.out 11).trans rfl;have hfz16_0 := blk_frozen BK106.out 0;have hfz16_1 := blk_frozen BK106.out 1;have hfz16_2 := blk_frozen BK106.out 2;have hfz16_3 := blk_frozen BK106.out 3;have hfz16_4 := blk_frozen BK106.out 4;have hfz16_5 := blk_frozen BK106.out 5;have hfz16_6 := blk_frozen BK106.out 6;have hfz16_7 := blk_frozen BK106.out 7;have hfz16_8 := blk_frozen BK106.out 8;have hfz16_9 := blk_frozen BK106.out 9;have hfz16_10 := blk_frozen BK106.out 10;have hfz16_11 := blk_frozen BK106.out 11) | ((with_reducible refine gate_store (t:=32) (p:=8) rfl ?_);refine store_event (t:=32) (p:=8) (v:=?vo_w17) (w1:=((((((((((((w12.setCell ⟨gb106,0,none⟩ (.int .i64 ((rd_T32 l0 x16_2).f0.f0))).setCell ⟨gb106,1,none⟩ (.int .i64 ((rd_T32 l0 x16_2).f0.f1))).setCell ⟨gb106,2,none⟩ (.int .i64 ((rd_T32 l0 x16_2).f0.f2))).setCell ⟨gb106,3,none⟩ (.int .i64 ((rd_T32 l0 x16_2).f0.f3))).setCell ⟨gb106,4,none⟩ (.int .i64 ((rd_T32 l0 x16_2).f0.f4))).setCell ⟨gb106,5,none⟩ (.int .i64 ((rd_T32 l0 x16_2).f0.f5))).setCell ⟨gb106,6,none⟩ (.int .i64 ((rd_T32 l0 x16_2).f0.f6))).setCell ⟨gb106,7,none⟩ (.int .i64 ((rd_T32 l0 x16_2).f0.f7))).setCell ⟨gb106,8,none⟩ (.int .i64 ((rd_T32 l0 x16_2).f0.f8))).setCell ⟨gb106,9,none⟩ (.int .i64 ((rd_T32 l0 x16_2).f0.f9))).setCell ⟨gb106,10,none⟩ (.int .i64 ((rd_T32 l0 x16_2).f0.f10))).setCell ⟨gb106,11,none⟩ (.int .i64 ((rd_T32 l0 x16_2).f0.f11)))) ?hg ?ho ?hn ?hr ?_;(case ho => rfl);(case hg => rfl);(case hn => rfl);(case hr => first | (go_simp;done) | (go_simp;rfl));intro w17 hw;have n0_ : Aside0 (w17.heap[gb102]? = some (.cells #[.int .i64 x103000_1, .int .i64 x103001_1, .int .i64 x103002_1, .int .i64 x103003_1, .int .i64 x103004_1, .int .i64 x103005_1, .int .i64 x103006_1, .int .i64 x103007_1, .int .i64 x103008_1, .int .i64 x103009_1, .int .i64 x103010_1, .int .i64 x103011_1] 32 (0,0))) := ⟨(by rw [hw];exact (by (with_reducible repeat (first | refine blk_drewN ?_ _ | refine blk_drew ?_ | refine blk_alloc ?_ _));refine blk_far ?_ NB102_106.out _;(with_reducible repeat (first | refine blk_drewN ?_ _ | refine blk_drew ?_ | refine blk_alloc ?_ _));refine blk_far ?_ NB102_106.out _;(with_reducible repeat (first | refine blk_drewN ?_ _ | refine blk_drew ?_ | refine blk_alloc ?_ _));refine blk_far ?_ NB102_106.out _;(with_reducible repeat (first | refine blk_drewN ?_ _ | refine blk_drew ?_ | refine blk_alloc ?_ _));refine blk_far ?_ NB102_106.out _;(with_reducible repeat (first | refine blk_drewN ?_ _ | refine blk_drew ?_ | refine blk_alloc ?_ _));refine blk_far ?_ NB102_106.out _;(with_reducible repeat (first | refine blk_drewN ?_ _ | refine blk_drew ?_ | refine blk_alloc ?_ _));refine blk_far ?_ NB102_106.out _;(with_reducible repeat (first | refine blk_drewN ?_ _ | refine blk_drew ?_ | refine blk_alloc ?_ _));refine blk_far ?_ NB102_106.out _;(with_reducible repeat (first | refine blk_drewN ?_ _ | refine blk_drew ?_ | refine blk_alloc ?_ _));refine blk_far ?_ NB102_106.out _;(with_reducible repeat (first | refine blk_drewN ?_ _ | refine blk_drew ?_ | refine blk_alloc ?_ _));refine blk_far ?_ NB102_106.out _;(with_reducible repeat (first | refine blk_drewN ?_ _ | refine blk_drew ?_ | refine blk_alloc ?_ _));refine blk_far ?_ NB102_106.out _;(with_reducible repeat (first | refine blk_drewN ?_ _ | refine blk_drew ?_ | refine blk_alloc ?_ _));refine blk_far ?_ NB102_106.out _;(with_reducible repeat (first | refine blk_drewN ?_ _ | refine blk_drew ?_ | refine blk_alloc ?_ _));refine blk_far ?_ NB102_106.out _;(with_reducible repeat (first | refine blk_drewN ?_ _ | refine blk_drew ?_ | refine blk_alloc ?_ _));exact BK102.out))⟩;have n1_ : Aside0 (w17.heap[gb103]? = some (.cells #[.int .i64 x104000_1, .int .i64 x104001_1, .int .i64 x104002_1, .int .i64 x104003_1, .int .i64 x104004_1, .int .i64 x104005_1, .int .i64 x104006_1, .int .i64 x104007_1, .int .i64 x104008_1, .int .i64 x104009_1, .int .i64 x104010_1, .int .i64 x104011_1] 32 (0,0))) := ⟨(by rw [hw];exact (by (with_reducible repeat (first | refine blk_drewN ?_ _ | refine blk_drew ?_ | refine blk_alloc ?_ _));refine blk_far ?_ NB103_106.out _;(with_reducible repeat (first | refine blk_drewN ?_ _ | refine blk_drew ?_ | refine blk_alloc ?_ _));refine blk_far ?_ NB103_106.out _;(with_reducible repeat (first | refine blk_drewN ?_ _ | refine blk_drew ?_ | refine blk_alloc ?_ _));refine blk_far ?_ NB103_106.out _;(with_reducible repeat (first | refine blk_drewN ?_ _ | refine blk_drew ?_ | refine blk_alloc ?_ _));refine blk_far ?_ NB103_106.out _;(with_reducible repeat (first | refine blk_drewN ?_ _ | refine blk_drew ?_ | refine blk_alloc ?_ _));refine blk_far ?_ NB103_106.out _;(with_reducible repeat (first | refine blk_drewN ?_ _ | refine blk_drew ?_ | refine blk_alloc ?_ _));refine blk_far ?_ NB103_106.out _;(with_reducible repeat (first | refine blk_drewN ?_ _ | refine blk_drew ?_ | refine blk_alloc ?_ _));refine blk_far ?_ NB103_106.out _;(with_reducible repeat (first | refine blk_drewN ?_ _ | refine blk_drew ?_ | refine blk_alloc ?_ _));refine blk_far ?_ NB103_106.out _;(with_reducible repeat (first | refine blk_drewN ?_ _ | refine blk_drew ?_ | refine blk_alloc ?_ _));refine blk_far ?_ NB103_106.out _;(with_reducible repeat (first | refine blk_drewN ?_ _ | refine blk_drew ?_ | refine blk_alloc ?_ _));refine blk_far ?_ NB103_106.out _;(with_reducible repeat (first | refine blk_drewN ?_ _ | refine blk_drew ?_ | refine blk_alloc ?_ _));refine blk_far ?_ NB103_106.out _;(with_reducible repeat (first | refine blk_drewN ?_ _ | refine blk_drew ?_ | refine blk_alloc ?_ _));refine blk_far ?_ NB103_106.out _;(with_reducible repeat (first | refine blk_drewN ?_ _ | refine blk_drew ?_ | refine blk_alloc ?_ _));exact BK103.out))⟩;have n2_ : Aside0 (w17.heap[gb104]? = some (.cells #[.int .i64 x105000_2, .int .u64 x105001_2] 47 (0,0))) := ⟨(by rw [hw];exact (by (with_reducible repeat (first | refine blk_drewN ?_ _ | refine blk_drew ?_ | refine blk_alloc ?_ _));refine blk_far ?_ NB104_106.out _;(with_reducible repeat (first | refine blk_drewN ?_ _ | refine blk_drew ?_ | refine blk_alloc ?_ _));refine blk_far ?_ NB104_106.out _;(with_reducible repeat (first | refine blk_drewN ?_ _ | refine blk_drew ?_ | refine blk_alloc ?_ _));refine blk_far ?_ NB104_106.out _;(with_reducible repeat (first | refine blk_drewN ?_ _ | refine blk_drew ?_ | refine blk_alloc ?_ _));refine blk_far ?_ NB104_106.out _;(with_reducible repeat (first | refine blk_drewN ?_ _ | refine blk_drew ?_ | refine blk_alloc ?_ _));refine blk_far ?_ NB104_106.out _;(with_reducible repeat (first | refine blk_drewN ?_ _ | refine blk_drew ?_ | refine blk_alloc ?_ _));refine blk_far ?_ NB104_106.out _;(with_reducible repeat (first | refine blk_drewN ?_ _ | refine blk_drew ?_ | refine blk_alloc ?_ _));refine blk_far ?_ NB104_106.out _;(with_reducible repeat (first | refine blk_drewN ?_ _ | refine blk_drew ?_ | refine blk_alloc ?_ _));refine blk_far ?_ NB104_106.out _;(with_reducible repeat (first | refine blk_drewN ?_ _ | refine blk_drew ?_ | refine blk_alloc ?_ _));refine blk_far ?_ NB104_106.out _;(with_reducible repeat (first | refine blk_drewN ?_ _ | refine blk_drew ?_ | refine blk_alloc ?_ _));refine blk_far ?_ NB104_106.out _;(with_reducible repeat (first | refine blk_drewN ?_ _ | refine blk_drew ?_ | refine blk_alloc ?_ _));refine blk_far ?_ NB104_106.out _;(with_reducible repeat (first | refine blk_drewN ?_ _ | refine blk_drew ?_ | refine blk_alloc ?_ _));refine blk_far ?_ NB104_106.out _;(with_reducible repeat (first | refine blk_drewN ?_ _ | refine blk_drew ?_ | refine blk_alloc ?_ _));exact BK104.out))⟩;have n3_ : Aside0 (w17.heap[gb106]? = some (.cells #[.int .i64 ((rd_T32 l0 x16_2).f0.f0), .int .i64 ((rd_T32 l0 x16_2).f0.f1), .int .i64 ((rd_T32 l0 x16_2).f0.f2), .int .i64 ((rd_T32 l0 x16_2).f0.f3), .int .i64 ((rd_T32 l0 x16_2).f0.f4), .int .i64 ((rd_T32 l0 x16_2).f0.f5), .int .i64 ((rd_T32 l0 x16_2).f0.f6), .int .i64 ((rd_T32 l0 x16_2).f0.f7), .int .i64 ((rd_T32 l0 x16_2).f0.f8), .int .i64 ((rd_T32 l0 x16_2).f0.f9), .int .i64 ((rd_T32 l0 x16_2).f0.f10), .int .i64 ((rd_T32 l0 x16_2).f0.f11)] 32 (0,0))) := ⟨(by rw [hw];exact (by (with_reducible repeat (first | refine blk_drewN ?_ _ | refine blk_drew ?_ | refine blk_alloc ?_ _));refine blk_put (cs:=#[.int .i64 ((rd_T32 l0 x16_2).f0.f0), .int .i64 ((rd_T32 l0 x16_2).f0.f1), .int .i64 ((rd_T32 l0 x16_2).f0.f2), .int .i64 ((rd_T32 l0 x16_2).f0.f3), .int .i64 ((rd_T32 l0 x16_2).f0.f4), .int .i64 ((rd_T32 l0 x16_2).f0.f5), .int .i64 ((rd_T32 l0 x16_2).f0.f6), .int .i64 ((rd_T32 l0 x16_2).f0.f7), .int .i64 ((rd_T32 l0 x16_2).f0.f8), .int .i64 ((rd_T32 l0 x16_2).f0.f9), .int .i64 ((rd_T32 l0 x16_2).f0.f10), .int .i64 0]) ?_ 11 _ rfl;(with_reducible repeat (first | refine blk_drewN ?_ _ | refine blk_drew ?_ | refine blk_alloc ?_ _));refine blk_put (cs:=#[.int .i64 ((rd_T32 l0 x16_2).f0.f0), .int .i64 ((rd_T32 l0 x16_2).f0.f1), .int .i64 ((rd_T32 l0 x16_2).f0.f2), .int .i64 ((rd_T32 l0 x16_2).f0.f3), .int .i64 ((rd_T32 l0 x16_2).f0.f4), .int .i64 ((rd_T32 l0 x16_2).f0.f5), .int .i64 ((rd_T32 l0 x16_2).f0.f6), .int .i64 ((rd_T32 l0 x16_2).f0.f7), .int .i64 ((rd_T32 l0 x16_2).f0.f8), .int .i64 ((rd_T32 l0 x16_2).f0.f9), .int .i64 0, .int .i64 0]) ?_ 10 _ rfl;(with_reducible repeat (first | refine blk_drewN ?_ _ | refine blk_drew ?_ | refine blk_alloc ?_ _));refine blk_put (cs:=#[.int .i64 ((rd_T32 l0 x16_2).f0.f0), .int .i64 ((rd_T32 l0 x16_2).f0.f1), .int .i64 ((rd_T32 l0 x16_2).f0.f2), .int .i64 ((rd_T32 l0 x16_2).f0.f3), .int .i64 ((rd_T32 l0 x16_2).f0.f4), .int .i64 ((rd_T32 l0 x16_2).f0.f5), .int .i64 ((rd_T32 l0 x16_2).f0.f6), .int .i64 ((rd_T32 l0 x16_2).f0.f7), .int .i64 ((rd_T32 l0 x16_2).f0.f8), .int .i64 0, .int .i64 0, .int .i64 0]) ?_ 9 _ rfl;(with_reducible repeat (first | refine blk_drewN ?_ _ | refine blk_drew ?_ | refine blk_alloc ?_ _));refine blk_put (cs:=#[.int .i64 ((rd_T32 l0 x16_2).f0.f0), .int .i64 ((rd_T32 l0 x16_2).f0.f1), .int .i64 ((rd_T32 l0 x16_2).f0.f2), .int .i64 ((rd_T32 l0 x16_2).f0.f3), .int .i64 ((rd_T32 l0 x16_2).f0.f4), .int .i64 ((rd_T32 l0 x16_2).f0.f5), .int .i64 ((rd_T32 l0 x16_2).f0.f6), .int .i64 ((rd_T32 l0 x16_2).f0.f7), .int .i64 0, .int .i64 0, .int .i64 0, .int .i64 0]) ?_ 8 _ rfl;(with_reducible repeat (first | refine blk_drewN ?_ _ | refine blk_drew ?_ | refine blk_alloc ?_ _));refine blk_put (cs:=#[.int .i64 ((rd_T32 l0 x16_2).f0.f0), .int .i64 ((rd_T32 l0 x16_2).f0.f1), .int .i64 ((rd_T32 l0 x16_2).f0.f2), .int .i64 ((rd_T32 l0 x16_2).f0.f3), .int .i64 ((rd_T32 l0 x16_2).f0.f4), .int .i64 ((rd_T32 l0 x16_2).f0.f5), .int .i64 ((rd_T32 l0 x16_2).f0.f6), .int .i64 0, .int .i64 0, .int .i64 0, .int .i64 0, .int .i64 0]) ?_ 7 _ rfl;(with_reducible repeat (first | refine blk_drewN ?_ _ | refine blk_drew ?_ | refine blk_alloc ?_ _));refine blk_put (cs:=#[.int .i64 ((rd_T32 l0 x16_2).f0.f0), .int .i64 ((rd_T32 l0 x16_2).f0.f1), .int .i64 ((rd_T32 l0 x16_2).f0.f2), .int .i64 ((rd_T32 l0 x16_2).f0.f3), .int .i64 ((rd_T32 l0 x16_2).f0.f4), .int .i64 ((rd_T32 l0 x16_2).f0.f5), .int .i64 0, .int .i64 0, .int .i64 0, .int .i64 0, .int .i64 0, .int .i64 0]) ?_ 6 _ rfl;(with_reducible repeat (first | refine blk_drewN ?_ _ | refine blk_drew ?_ | refine blk_alloc ?_ _));refine blk_put (cs:=#[.int .i64 ((rd_T32 l0 x16_2).f0.f0), .int .i64 ((rd_T32 l0 x16_2).f0.f1), .int .i64 ((rd_T32 l0 x16_2).f0.f2), .int .i64 ((rd_T32 l0 x16_2).f0.f3), .int .i64 ((rd_T32 l0 x16_2).f0.f4), .int .i64 0, .int .i64 0, .int .i64 0, .int .i64 0, .int .i64 0, .int .i64 0, .int .i64 0]) ?_ 5 _ rfl;(with_reducible repeat (first | refine blk_drewN ?_ _ | refine blk_drew ?_ | refine blk_alloc ?_ _));refine blk_put (cs:=#[.int .i64 ((rd_T32 l0 x16_2).f0.f0), .int .i64 ((rd_T32 l0 x16_2).f0.f1), .int .i64 ((rd_T32 l0 x16_2).f0.f2), .int .i64 ((rd_T32 l0 x16_2).f0.f3), .int .i64 0, .int .i64 0, .int .i64 0, .int .i64 0, .int .i64 0, .int .i64 0, .int .i64 0, .int .i64 0]) ?_ 4 _ rfl;(with_reducible repeat (first | refine blk_drewN ?_ _ | refine blk_drew ?_ | refine blk_alloc ?_ _));refine blk_put (cs:=#[.int .i64 ((rd_T32 l0 x16_2).f0.f0), .int .i64 ((rd_T32 l0 x16_2).f0.f1), .int .i64 ((rd_T32 l0 x16_2).f0.f2), .int .i64 0, .int .i64 0, .int .i64 0, .int .i64 0, .int .i64 0, .int .i64 0, .int .i64 0, .int .i64 0, .int .i64 0]) ?_ 3 _ rfl;(with_reducible repeat (first | refine blk_drewN ?_ _ | refine blk_drew ?_ | refine blk_alloc ?_ _));refine blk_put (cs:=#[.int .i64 ((rd_T32 l0 x16_2).f0.f0), .int .i64 ((rd_T32 l0 x16_2).f0.f1), .int .i64 0, .int .i64 0, .int .i64 0, .int .i64 0, .int .i64 0, .int .i64 0, .int .i64 0, .int .i64 0, .int .i64 0, .int .i64 0]) ?_ 2 _ rfl;(with_reducible repeat (first | refine blk_drewN ?_ _ | refine blk_drew ?_ | refine blk_alloc ?_ _));refine blk_put (cs:=#[.int .i64 ((rd_T32 l0 x16_2).f0.f0), .int .i64 0, .int .i64 0, .int .i64 0, .int .i64 0, .int .i64 0, .int .i64 0, .int .i64 0, .int .i64 0, .int .i64 0, .int .i64 0, .int .i64 0]) ?_ 1 _ rfl;(with_reducible repeat (first | refine blk_drewN ?_ _ | refine blk_drew ?_ | refine blk_alloc ?_ _));refine blk_put (cs:=#[.int .i64 0, .int .i64 0, .int .i64 0, .int .i64 0, .int .i64 0, .int .i64 0, .int .i64 0, .int .i64 0, .int .i64 0, .int .i64 0, .int .i64 0, .int .i64 0]) ?_ 0 _ rfl;(with_reducible repeat (first | refine blk_drewN ?_ _ | refine blk_drew ?_ | refine blk_alloc ?_ _));exact BK106.out))⟩;have n4_ : Aside0 (Below w.heap.size w w17) := ⟨(by rw [hw];exact (by repeat (first | (with_reducible first | exact HB.out | apply below_alloc | apply pw_below_drewN | apply below_drew1 | refine below_set ?_ GE102.out | refine below_set ?_ GE103.out | refine below_set ?_ GE104.out | refine below_set ?_ GE106.out) | exact HB.out)))⟩;clear hw;clear BK102;clear BK103;clear BK104;clear BK106;clear HB;have BK102 := n0_;have BK103 := n1_;have BK104 := n2_;have BK106 := n3_;have HB := n4_;clear n0_ n1_ n2_ n3_ n4_))
           have n0_ := Aside0.mk (blk_drew BK102.out)
           have n1_ := Aside0.mk (blk_drew BK103.out)
           have n2_ := Aside0.mk (blk_drew BK104.out)
           have n3_ := Aside0.mk (blk_drew BK106.out)
           have n4_ := Aside0.mk (below_drew1 HB.out)
           clear BK102
           clear BK103
           clear BK104
           clear BK106
           clear HB
           have BK102 := n0_
           have BK103 := n1_
           have BK104 := n2_
           have BK106 := n3_
           have HB := n4_
           clear n0_ n1_ n2_ n3_ n4_
           have p107 : 0 ≤ (x11_1 : Int) := of_decide_eq_true (by first | (with_reducible assumption) | assumption)
           have q107 : (x11_1 : Int) < 12 := of_decide_eq_true (by first | (with_reducible assumption) | assumption)
           have P107 := Aside0.mk p107
           have Q107 := Aside0.mk q107
           have t107 := eq_true (show (x11_1 : Int).toNat < 12 by omega)
           replace p107 := eq_true p107
           replace q107 := eq_true q107
           refine start_ (n:=7) (S:=fun w' => w'.cell? ⟨gb104,0,none⟩ = some (.int .i64 x105000_2) ∧ w'.cell? ⟨gb104,1,none⟩ = some (.int .u64 x105001_2) ∧ w'.cell? ⟨gb106,(x11_1 : Int).toNat,none⟩ = some (.int .i64 (selI [(rd_T32 l0 x16_2).f0.f0,(rd_T32 l0 x16_2).f0.f1,(rd_T32 l0 x16_2).f0.f2,(rd_T32 l0 x16_2).f0.f3,(rd_T32 l0 x16_2).f0.f4,(rd_T32 l0 x16_2).f0.f5,(rd_T32 l0 x16_2).f0.f6,(rd_T32 l0 x16_2).f0.f7,(rd_T32 l0 x16_2).f0.f8,(rd_T32 l0 x16_2).f0.f9,(rd_T32 l0 x16_2).f0.f10,(rd_T32 l0 x16_2).f0.f11] x11_1))) (ds:=[6]) #[false,false,false,false,false,false,false] (by kernel_rfl) rfl rfl ⟨(blk_cell BK104.out 0).trans rfl,(blk_cell BK104.out 1).trans rfl,(blk_cell BK106.out ((x11_1 : Int).toNat)).trans (selI_at .i64 [(rd_T32 l0 x16_2).f0.f0,(rd_T32 l0 x16_2).f0.f1,(rd_T32 l0 x16_2).f0.f2,(rd_T32 l0 x16_2).f0.f3,(rd_T32 l0 x16_2).f0.f4,(rd_T32 l0 x16_2).f0.f5,(rd_T32 l0 x16_2).f0.f6,(rd_T32 l0 x16_2).f0.f7,(rd_T32 l0 x16_2).f0.f8,(rd_T32 l0 x16_2).f0.f9,(rd_T32 l0 x16_2).f0.f10,(rd_T32 l0 x16_2).f0.f11] x11_1 P107.out Q107.out)⟩ (fun hHeld => ?_)
           generalize w17.drew = w18 at BK102 BK103 BK104 BK106 HB hHeld ⊢
           refine pure_ (i:=1) (N:=some 21) (v:=?_) (a' := ?_) #[false,true,false,false,false,false,false] rfl rfl (by kernel_rfl) (fun _ _ _ h => h) (Or.inl ⟨by rfl,?_⟩) ?_ ?_
           rotate_left
           ·
            intro w'
            go_simp
            with_reducible rfl
           rotate_left
           ·
            simp only [Act.put,List.setIfInBounds_toArray,List.set_cons_zero,List.set_cons_succ,i64_w,i32_w]
            rfl
           refine pure_ (i:=2) (N:=some 22) (v:=?_) (a' := ?_) #[false,true,true,false,false,false,false] rfl rfl (by kernel_rfl) (fun _ _ _ h => h) (Or.inl ⟨by rfl,?_⟩) ?_ ?_
           rotate_left
           ·
            intro w'
            go_simp
            with_reducible rfl
           rotate_left
           ·
            simp only [Act.put,List.setIfInBounds_toArray,List.set_cons_zero,List.set_cons_succ,i64_w,i32_w]
            rfl
           refine pure_ (i:=3) (N:=some 23) (v:=?_) (a' := ?_) #[false,true,true,true,false,false,false] rfl rfl (by kernel_rfl) (fun _ _ _ h => h) (Or.inl ⟨by rfl,?_⟩) ?_ ?_
           rotate_left
           ·
            intro w'
            go_simp
            with_reducible rfl
           rotate_left
           ·
            simp only [Act.put,List.setIfInBounds_toArray,List.set_cons_zero,List.set_cons_succ,i64_w,i32_w]
            rfl
           refine take_ (i:=0) (N:=some 20) (v:=?_) (a' := ?_) #[true,true,true,true,false,false,false] rfl rfl (by kernel_rfl) (fun _ _ _ h => h) (Or.inl ⟨by rfl,?_⟩) hHeld ?_ ?_
           rotate_left
           ·
            rintro w' ⟨s0,s1,s2⟩
            go_simp
            with_reducible rfl
           rotate_left
           ·
            simp only [Act.put,List.setIfInBounds_toArray,List.set_cons_zero,List.set_cons_succ,i64_w,i32_w]
            rfl
           refine take_ (i:=4) (N:=some 24) (v:=?_) (a' := ?_) #[true,true,true,true,true,false,false] rfl rfl (by kernel_rfl) (fun _ _ _ h => h) (Or.inl ⟨by rfl,?_⟩) hHeld ?_ ?_
           rotate_left
           ·
            rintro w' ⟨s0,s1,s2⟩
            go_simp
            with_reducible rfl
           rotate_left
           ·
            simp only [Act.put,List.setIfInBounds_toArray,List.set_cons_zero,List.set_cons_succ,i64_w,i32_w]
            rfl
           refine one_ (i:=5) (N:=some 25) #[true,true,true,true,true,true,false] rfl rfl (by kernel_rfl) (by decide) (fun K hK => ?_)
           refine goes_ Try.func21 (by kernel_rfl) rfl #[.agg #[.int .i64 x105000_2, .int .u64 x105001_2], .int .i64 (selI [(rd_T32 l0 x16_2).f0.f0,(rd_T32 l0 x16_2).f0.f1,(rd_T32 l0 x16_2).f0.f2,(rd_T32 l0 x16_2).f0.f3,(rd_T32 l0 x16_2).f0.f4,(rd_T32 l0 x16_2).f0.f5,(rd_T32 l0 x16_2).f0.f6,(rd_T32 l0 x16_2).f0.f7,(rd_T32 l0 x16_2).f0.f8,(rd_T32 l0 x16_2).f0.f9,(rd_T32 l0 x16_2).f0.f10,(rd_T32 l0 x16_2).f0.f11] x11_1)] (by rfl) rfl rfl (by (try simp only [List.map_toArray,List.map_cons,List.map_nil]);first | done | rfl | (simp only [List.length_drop,List.length_take];rfl)) ?_
           with_reducible refine (ledger_wide_plus.calls x105000_2 x105001_2 (selI [(rd_T32 l0 x16_2).f0.f0,(rd_T32 l0 x16_2).f0.f1,(rd_T32 l0 x16_2).f0.f2,(rd_T32 l0 x16_2).f0.f3,(rd_T32 l0 x16_2).f0.f4,(rd_T32 l0 x16_2).f0.f5,(rd_T32 l0 x16_2).f0.f6,(rd_T32 l0 x16_2).f0.f7,(rd_T32 l0 x16_2).f0.f8,(rd_T32 l0 x16_2).f0.f9,(rd_T32 l0 x16_2).f0.f10,(rd_T32 l0 x16_2).f0.f11] x11_1) t108 t109 _ A11.out).mono ?_
           rintro e w19 ⟨rfl,hb⟩
           refine ⟨_,rfl,?_⟩
           have n0_ := Aside0.mk (blk_below (g:=gb102) (o:=.cells #[.int .i64 x103000_1, .int .i64 x103001_1, .int .i64 x103002_1, .int .i64 x103003_1, .int .i64 x103004_1, .int .i64 x103005_1, .int .i64 x103006_1, .int .i64 x103007_1, .int .i64 x103008_1, .int .i64 x103009_1, .int .i64 x103010_1, .int .i64 x103011_1] 32 (0,0)) (by (with_reducible repeat (first | refine blk_drewN ?_ _ | refine blk_drew ?_ | refine blk_alloc ?_ _));exact BK102.out) hb)
           have n1_ := Aside0.mk (blk_below (g:=gb103) (o:=.cells #[.int .i64 x104000_1, .int .i64 x104001_1, .int .i64 x104002_1, .int .i64 x104003_1, .int .i64 x104004_1, .int .i64 x104005_1, .int .i64 x104006_1, .int .i64 x104007_1, .int .i64 x104008_1, .int .i64 x104009_1, .int .i64 x104010_1, .int .i64 x104011_1] 32 (0,0)) (by (with_reducible repeat (first | refine blk_drewN ?_ _ | refine blk_drew ?_ | refine blk_alloc ?_ _));exact BK103.out) hb)
           have n2_ := Aside0.mk (blk_below (g:=gb104) (o:=.cells #[.int .i64 x105000_2, .int .u64 x105001_2] 47 (0,0)) (by (with_reducible repeat (first | refine blk_drewN ?_ _ | refine blk_drew ?_ | refine blk_alloc ?_ _));exact BK104.out) hb)
           have n3_ := Aside0.mk (blk_below (g:=gb106) (o:=.cells #[.int .i64 ((rd_T32 l0 x16_2).f0.f0), .int .i64 ((rd_T32 l0 x16_2).f0.f1), .int .i64 ((rd_T32 l0 x16_2).f0.f2), .int .i64 ((rd_T32 l0 x16_2).f0.f3), .int .i64 ((rd_T32 l0 x16_2).f0.f4), .int .i64 ((rd_T32 l0 x16_2).f0.f5), .int .i64 ((rd_T32 l0 x16_2).f0.f6), .int .i64 ((rd_T32 l0 x16_2).f0.f7), .int .i64 ((rd_T32 l0 x16_2).f0.f8), .int .i64 ((rd_T32 l0 x16_2).f0.f9), .int .i64 ((rd_T32 l0 x16_2).f0.f10), .int .i64 ((rd_T32 l0 x16_2).f0.f11)] 32 (0,0)) (by (with_reducible repeat (first | refine blk_drewN ?_ _ | refine blk_drew ?_ | refine blk_alloc ?_ _));exact BK106.out) hb)
           have n4_ := Aside0.mk (below_step (by repeat (first | (with_reducible first | exact HB.out | apply below_alloc | apply pw_below_drewN | apply below_drew1 | refine below_set ?_ GE102.out | refine below_set ?_ GE103.out | refine below_set ?_ GE104.out | refine below_set ?_ GE106.out) | exact HB.out)) hb)
           clear BK102
           clear BK103
           clear BK104
           clear BK106
           clear HB
           have BK102 := n0_
           have BK103 := n1_
           have BK104 := n2_
           have BK106 := n3_
           have HB := n4_
           clear n0_ n1_ n2_ n3_ n4_
           (try clear hb)
           (try clear hb2)
           (try clear hk)
           (try clear hi)
           refine hK.out _ _ ⟨(blk_cell BK104.out 0).trans rfl,(blk_cell BK104.out 1).trans rfl,(blk_cell BK106.out ((x11_1 : Int).toNat)).trans (selI_at .i64 [(rd_T32 l0 x16_2).f0.f0,(rd_T32 l0 x16_2).f0.f1,(rd_T32 l0 x16_2).f0.f2,(rd_T32 l0 x16_2).f0.f3,(rd_T32 l0 x16_2).f0.f4,(rd_T32 l0 x16_2).f0.f5,(rd_T32 l0 x16_2).f0.f6,(rd_T32 l0 x16_2).f0.f7,(rd_T32 l0 x16_2).f0.f8,(rd_T32 l0 x16_2).f0.f9,(rd_T32 l0 x16_2).f0.f10,(rd_T32 l0 x16_2).f0.f11] x11_1 P107.out Q107.out)⟩ (fun hHeld => ?_)
           clear hK K
           refine norm_ (a' := ?_) ?_ ?_
           rotate_left
           ·
            show Act.put _ (some 25) _ = _
            simp only [Act.put,List.setIfInBounds_toArray,List.set_cons_zero,List.set_cons_succ,i64_w,i32_w]
            rfl
           refine last_ (i:=6) (N:=none) #[true,true,true,true,true,true,true] rfl rfl (by kernel_rfl) (by decide) (fun K hK => ?_)
           have hs20 : w19.cell? ⟨gb104,0,none⟩ = some (.int .i64 x105000_2) := (blk_cell BK104.out 0).trans rfl
           have hfs20 := blk_frozen BK104.out 0
           have hns20_0 := NB102_104.out
           have hns20_1 := NB103_104.out
           have hns20_3 := NB106_104.out
           have hms20_0 := NB104_102.out
           have hms20_1 := NB104_103.out
           have hms20_3 := NB104_106.out
           have hs21 : w19.cell? ⟨gb104,1,none⟩ = some (.int .u64 x105001_2) := (blk_cell BK104.out 1).trans rfl
           have hfs21 := blk_frozen BK104.out 1
           have hns21_0 := NB102_104.out
           have hns21_1 := NB103_104.out
           have hns21_3 := NB106_104.out
           have hms21_0 := NB104_102.out
           have hms21_1 := NB104_103.out
           have hms21_3 := NB104_106.out
           refine skip_ (w1:=?_) (by rfl) rfl ?_ ?_
           rotate_left
           ·
            go_simp
            rfl
           refine hK.out _ _ ?_
           clear hK K
           refine done_ (by kernel_rfl) ?_
           try go_wp2
           go_roundg k2
           case measure => have := HK1.out;have := HK2.out;omega
           case rel => exact ⟨(wrap64 (x16_2 + 1)),(t108),(t109),(by first | rfl | (simp;done) | (simp [*];done)),H',⟨by have := HK1.out;have := HK2.out;omega⟩,⟨by (with_reducible repeat (first | refine blk_drewN ?_ _ | refine blk_drew ?_ | refine blk_alloc ?_ _));refine blk_far ?_ NB102_104.out _;(with_reducible repeat (first | refine blk_drewN ?_ _ | refine blk_drew ?_ | refine blk_alloc ?_ _));refine blk_far ?_ NB102_104.out _;(with_reducible repeat (first | refine blk_drewN ?_ _ | refine blk_drew ?_ | refine blk_alloc ?_ _));exact BK102.out⟩,⟨by (with_reducible repeat (first | refine blk_drewN ?_ _ | refine blk_drew ?_ | refine blk_alloc ?_ _));refine blk_far ?_ NB103_104.out _;(with_reducible repeat (first | refine blk_drewN ?_ _ | refine blk_drew ?_ | refine blk_alloc ?_ _));refine blk_far ?_ NB103_104.out _;(with_reducible repeat (first | refine blk_drewN ?_ _ | refine blk_drew ?_ | refine blk_alloc ?_ _));exact BK103.out⟩,⟨by (with_reducible repeat (first | refine blk_drewN ?_ _ | refine blk_drew ?_ | refine blk_alloc ?_ _));refine blk_put (cs:=#[.int .i64 t108, .int .u64 x105001_2]) ?_ 1 _ rfl;(with_reducible repeat (first | refine blk_drewN ?_ _ | refine blk_drew ?_ | refine blk_alloc ?_ _));refine blk_put (cs:=#[.int .i64 x105000_2, .int .u64 x105001_2]) ?_ 0 _ rfl;(with_reducible repeat (first | refine blk_drewN ?_ _ | refine blk_drew ?_ | refine blk_alloc ?_ _));exact BK104.out⟩,⟨by repeat (first | (with_reducible first | exact HB.out | apply below_alloc | apply pw_below_drewN | apply below_drew1 | refine below_set ?_ GE102.out | refine below_set ?_ GE103.out | refine below_set ?_ GE104.out | refine below_set ?_ GE106.out) | exact HB.out)⟩⟩
          ·
           rw [if_neg c10] at H
           exact absurd H (by simp)
         ·
          rw [if_neg c9] at H
          exact absurd H (by simp)
        ·
         rw [if_neg c8] at H
         exact absurd H (by simp)
       ·
        rw [if_neg c7] at H
        exact absurd H (by simp)
      ·
       rw [if_neg c6] at H
       have c6b0 : decide (x16_2 < (l0.length : Int)) = false := decide_eq_false c6
       clear c6
       replace H := Option.bind_eq_some_iff.mp H
       obtain ⟨⟨t110,t111⟩,A220,H⟩ := H
       replace H : (if t111 = true then (if 0 ≤ x11_1 then (if x11_1 < 12 then (ledger_Total.l0 k2 l0 (wrap64 (x11_1 + 1)) (putI x11_1 0 t110 x104000_1) (putI x11_1 1 t110 x104001_1) (putI x11_1 2 t110 x104002_1) (putI x11_1 3 t110 x104003_1) (putI x11_1 4 t110 x104004_1) (putI x11_1 5 t110 x104005_1) (putI x11_1 6 t110 x104006_1) (putI x11_1 7 t110 x104007_1) (putI x11_1 8 t110 x104008_1) (putI x11_1 9 t110 x104009_1) (putI x11_1 10 t110 x104010_1) (putI x11_1 11 t110 x104011_1)) else (none)) else (none)) else (some (0,0,0,0,0,0,0,0,0,0,0,0,false))) = some (r1,r2,r3,r4,r5,r6,r7,r8,r9,r10,r11,r12,r13) := H
       have A22 := Aside0.mk A220
       clear A220
       by_cases c23 : t111 = true
       ·
        subst c23
        have H1 : (if 0 ≤ x11_1 then (if x11_1 < 12 then (ledger_Total.l0 k2 l0 (wrap64 (x11_1 + 1)) (putI x11_1 0 t110 x104000_1) (putI x11_1 1 t110 x104001_1) (putI x11_1 2 t110 x104002_1) (putI x11_1 3 t110 x104003_1) (putI x11_1 4 t110 x104004_1) (putI x11_1 5 t110 x104005_1) (putI x11_1 6 t110 x104006_1) (putI x11_1 7 t110 x104007_1) (putI x11_1 8 t110 x104008_1) (putI x11_1 9 t110 x104009_1) (putI x11_1 10 t110 x104010_1) (putI x11_1 11 t110 x104011_1)) else (none)) else (none)) = some (r1,r2,r3,r4,r5,r6,r7,r8,r9,r10,r11,r12,r13) := by rw [if_pos rfl] at H;exact H
        clear H
        have H := H1
        clear H1
        by_cases c24 : 0 ≤ x11_1
        ·
         rw [if_pos c24] at H
         have c24b0 : decide (0 ≤ x11_1) = true := decide_eq_true c24
         clear c24
         by_cases c25 : x11_1 < 12
         ·
          rw [if_pos c25] at H
          have c25b0 : decide (x11_1 < 12) = true := decide_eq_true c25
          clear c25
          have H' := Aside0.mk H
          clear H
          have hnb26 := NB104_102.out
          have hnc26 := NB102_104.out
          have hnb27 := NB104_103.out
          have hnc27 := NB103_104.out
          have hcz28_0 : wr.cell? ⟨gb104,0,none⟩ = some (.int .i64 x105000_2) := (blk_cell BK104.out 0).trans rfl
          have hcz28_1 : wr.cell? ⟨gb104,1,none⟩ = some (.int .u64 x105001_2) := (blk_cell BK104.out 1).trans rfl
          have hfz28_0 := blk_frozen BK104.out 0
          have hfz28_1 := blk_frozen BK104.out 1
          go_wp2_with (first | ((with_reducible refine gate_callee (f:=22) rfl ?_);refine goesL_ (some 29) rfl rfl Try.func22 (by kernel_rfl) rfl #[.agg #[.int .i64 x105000_2, .int .u64 x105001_2]] rfl (by (try simp only [List.map_toArray,List.map_cons,List.map_nil]);first | done | rfl | (simp only [List.length_drop,List.length_take];rfl)) ?_;(with_reducible refine (ledger_wide_narrow.calls x105000_2 x105001_2 t110 true _ A22.out).mono ?_);rintro e w29 ⟨rfl,hb⟩;refine ⟨_,rfl,?_⟩;have n0_ := Aside0.mk (blk_below (g:=gb102) (o:=.cells #[.int .i64 x103000_1, .int .i64 x103001_1, .int .i64 x103002_1, .int .i64 x103003_1, .int .i64 x103004_1, .int .i64 x103005_1, .int .i64 x103006_1, .int .i64 x103007_1, .int .i64 x103008_1, .int .i64 x103009_1, .int .i64 x103010_1, .int .i64 x103011_1] 32 (0,0)) (by (with_reducible repeat (first | refine blk_drewN ?_ _ | refine blk_drew ?_ | refine blk_alloc ?_ _));exact BK102.out) hb);have n1_ := Aside0.mk (blk_below (g:=gb103) (o:=.cells #[.int .i64 x104000_1, .int .i64 x104001_1, .int .i64 x104002_1, .int .i64 x104003_1, .int .i64 x104004_1, .int .i64 x104005_1, .int .i64 x104006_1, .int .i64 x104007_1, .int .i64 x104008_1, .int .i64 x104009_1, .int .i64 x104010_1, .int .i64 x104011_1] 32 (0,0)) (by (with_reducible repeat (first | refine blk_drewN ?_ _ | refine blk_drew ?_ | refine blk_alloc ?_ _));exact BK103.out) hb);have n2_ := Aside0.mk (blk_below (g:=gb104) (o:=.cells #[.int .i64 x105000_2, .int .u64 x105001_2] 47 (0,0)) (by (with_reducible repeat (first | refine blk_drewN ?_ _ | refine blk_drew ?_ | refine blk_alloc ?_ _));exact BK104.out) hb);have n3_ := Aside0.mk (below_step (by repeat (first | (with_reducible first | exact HB.out | apply below_alloc | apply pw_below_drewN | apply below_drew1 | refine below_set ?_ GE102.out | refine below_set ?_ GE103.out | refine below_set ?_ GE104.out) | exact HB.out)) hb);clear BK102;clear BK103;clear BK104;clear HB;have BK102 := n0_;have BK103 := n1_;have BK104 := n2_;have HB := n3_;clear n0_ n1_ n2_ n3_;(try clear hb);(try clear hb2);(try clear hk);(try clear hi);have hnb30 := NB103_102.out;have hnc30 := NB102_103.out;have p112 : 0 ≤ (x11_1 : Int) := of_decide_eq_true (by first | (with_reducible assumption) | assumption);have q112 : (x11_1 : Int) < 12 := of_decide_eq_true (by first | (with_reducible assumption) | assumption);have P112 := Aside0.mk p112;have Q112 := Aside0.mk q112;have hs112 : w29.cell? ⟨gb103,(x11_1 : Int).toNat,none⟩ = some (.int .i64 (selI [x104000_1,x104001_1,x104002_1,x104003_1,x104004_1,x104005_1,x104006_1,x104007_1,x104008_1,x104009_1,x104010_1,x104011_1] x11_1)) := (blk_cell BK103.out ((x11_1 : Int).toNat)).trans (selI_at .i64 [x104000_1,x104001_1,x104002_1,x104003_1,x104004_1,x104005_1,x104006_1,x104007_1,x104008_1,x104009_1,x104010_1,x104011_1] x11_1 p112 q112);have hfs112 := blk_frozen BK103.out ((x11_1 : Int).toNat);have t112 := eq_true (show (x11_1 : Int).toNat < 12 by omega);replace p112 := eq_true p112;replace q112 := eq_true q112))
          go_roundg k2
          case measure => have := HK1.out;have := HK2.out;omega
          case rel => exact ⟨(wrap64 (x11_1 + 1)),(x103000_1),(x103001_1),(x103002_1),(x103003_1),(x103004_1),(x103005_1),(x103006_1),(x103007_1),(x103008_1),(x103009_1),(x103010_1),(x103011_1),(putI x11_1 0 t110 x104000_1),(putI x11_1 1 t110 x104001_1),(putI x11_1 2 t110 x104002_1),(putI x11_1 3 t110 x104003_1),(putI x11_1 4 t110 x104004_1),(putI x11_1 5 t110 x104005_1),(putI x11_1 6 t110 x104006_1),(putI x11_1 7 t110 x104007_1),(putI x11_1 8 t110 x104008_1),(putI x11_1 9 t110 x104009_1),(putI x11_1 10 t110 x104010_1),(putI x11_1 11 t110 x104011_1),(by first | rfl | (simp;done) | (simp [*];done)),H',⟨by have := HK1.out;have := HK2.out;omega⟩,⟨by (with_reducible repeat (first | refine blk_drewN ?_ _ | refine blk_drew ?_ | refine blk_alloc ?_ _));refine blk_far ?_ NB102_103.out _;(with_reducible repeat (first | refine blk_drewN ?_ _ | refine blk_drew ?_ | refine blk_alloc ?_ _));exact BK102.out⟩,⟨by (with_reducible repeat (first | refine blk_drewN ?_ _ | refine blk_drew ?_ | refine blk_alloc ?_ _));refine blk_put (cs:=#[.int .i64 x104000_1, .int .i64 x104001_1, .int .i64 x104002_1, .int .i64 x104003_1, .int .i64 x104004_1, .int .i64 x104005_1, .int .i64 x104006_1, .int .i64 x104007_1, .int .i64 x104008_1, .int .i64 x104009_1, .int .i64 x104010_1, .int .i64 x104011_1]) ?_ (x11_1 : Int).toNat _ (putI_row .i64 [x104000_1,x104001_1,x104002_1,x104003_1,x104004_1,x104005_1,x104006_1,x104007_1,x104008_1,x104009_1,x104010_1,x104011_1] x11_1 t110 P112.out Q112.out);(with_reducible repeat (first | refine blk_drewN ?_ _ | refine blk_drew ?_ | refine blk_alloc ?_ _));exact BK103.out⟩,⟨by repeat (first | (with_reducible first | exact HB.out | apply below_alloc | apply pw_below_drewN | apply below_drew1 | refine below_set ?_ GE102.out | refine below_set ?_ GE103.out | refine below_set ?_ GE104.out) | exact HB.out)⟩⟩
         ·
          rw [if_neg c25] at H
          exact absurd H (by simp)
        ·
         rw [if_neg c24] at H
         exact absurd H (by simp)
       ·
        replace c23 := Bool.eq_false_iff.mpr c23
        subst c23
        have H1 : (some (0,0,0,0,0,0,0,0,0,0,0,0,false)) = some (r1,r2,r3,r4,r5,r6,r7,r8,r9,r10,r11,r12,r13) := by rw [if_neg (show ¬ (false = true) by decide)] at H;exact H
        clear H
        have H := H1
        clear H1
        simp only [Option.some.injEq,Prod.mk.injEq] at H
        obtain ⟨rfl,rfl,rfl,rfl,rfl,rfl,rfl,rfl,rfl,rfl,rfl,rfl,rfl⟩ := H
        have hnb31 := NB104_102.out
        have hnc31 := NB102_104.out
        have hnb32 := NB104_103.out
        have hnc32 := NB103_104.out
        have hcz33_0 : wr.cell? ⟨gb104,0,none⟩ = some (.int .i64 x105000_2) := (blk_cell BK104.out 0).trans rfl
        have hcz33_1 : wr.cell? ⟨gb104,1,none⟩ = some (.int .u64 x105001_2) := (blk_cell BK104.out 1).trans rfl
        have hfz33_0 := blk_frozen BK104.out 0
        have hfz33_1 := blk_frozen BK104.out 1
        go_wp2_with (first | ((with_reducible refine gate_callee (f:=22) rfl ?_);refine goesL_ (some 29) rfl rfl Try.func22 (by kernel_rfl) rfl #[.agg #[.int .i64 x105000_2, .int .u64 x105001_2]] rfl (by (try simp only [List.map_toArray,List.map_cons,List.map_nil]);first | done | rfl | (simp only [List.length_drop,List.length_take];rfl)) ?_;(with_reducible refine (ledger_wide_narrow.calls x105000_2 x105001_2 t110 false _ A22.out).mono ?_);rintro e w34 ⟨rfl,hb⟩;refine ⟨_,rfl,?_⟩;have n0_ := Aside0.mk (blk_below (g:=gb102) (o:=.cells #[.int .i64 x103000_1, .int .i64 x103001_1, .int .i64 x103002_1, .int .i64 x103003_1, .int .i64 x103004_1, .int .i64 x103005_1, .int .i64 x103006_1, .int .i64 x103007_1, .int .i64 x103008_1, .int .i64 x103009_1, .int .i64 x103010_1, .int .i64 x103011_1] 32 (0,0)) (by (with_reducible repeat (first | refine blk_drewN ?_ _ | refine blk_drew ?_ | refine blk_alloc ?_ _));exact BK102.out) hb);have n1_ := Aside0.mk (blk_below (g:=gb103) (o:=.cells #[.int .i64 x104000_1, .int .i64 x104001_1, .int .i64 x104002_1, .int .i64 x104003_1, .int .i64 x104004_1, .int .i64 x104005_1, .int .i64 x104006_1, .int .i64 x104007_1, .int .i64 x104008_1, .int .i64 x104009_1, .int .i64 x104010_1, .int .i64 x104011_1] 32 (0,0)) (by (with_reducible repeat (first | refine blk_drewN ?_ _ | refine blk_drew ?_ | refine blk_alloc ?_ _));exact BK103.out) hb);have n2_ := Aside0.mk (blk_below (g:=gb104) (o:=.cells #[.int .i64 x105000_2, .int .u64 x105001_2] 47 (0,0)) (by (with_reducible repeat (first | refine blk_drewN ?_ _ | refine blk_drew ?_ | refine blk_alloc ?_ _));exact BK104.out) hb);have n3_ := Aside0.mk (below_step (by repeat (first | (with_reducible first | exact HB.out | apply below_alloc | apply pw_below_drewN | apply below_drew1 | refine below_set ?_ GE102.out | refine below_set ?_ GE103.out | refine below_set ?_ GE104.out) | exact HB.out)) hb);clear BK102;clear BK103;clear BK104;clear HB;have BK102 := n0_;have BK103 := n1_;have BK104 := n2_;have HB := n3_;clear n0_ n1_ n2_ n3_;(try clear hb);(try clear hb2);(try clear hk);(try clear hi);have hnb35 := NB102_103.out;have hnc35 := NB103_102.out;have hcz36_0 : w34.cell? ⟨gb102,0,none⟩ = some (.int .i64 x103000_1) := (blk_cell BK102.out 0).trans rfl;have hcz36_1 : w34.cell? ⟨gb102,1,none⟩ = some (.int .i64 x103001_1) := (blk_cell BK102.out 1).trans rfl;have hcz36_2 : w34.cell? ⟨gb102,2,none⟩ = some (.int .i64 x103002_1) := (blk_cell BK102.out 2).trans rfl;have hcz36_3 : w34.cell? ⟨gb102,3,none⟩ = some (.int .i64 x103003_1) := (blk_cell BK102.out 3).trans rfl;have hcz36_4 : w34.cell? ⟨gb102,4,none⟩ = some (.int .i64 x103004_1) := (blk_cell BK102.out 4).trans rfl;have hcz36_5 : w34.cell? ⟨gb102,5,none⟩ = some (.int .i64 x103005_1) := (blk_cell BK102.out 5).trans rfl;have hcz36_6 : w34.cell? ⟨gb102,6,none⟩ = some (.int .i64 x103006_1) := (blk_cell BK102.out 6).trans rfl;have hcz36_7 : w34.cell? ⟨gb102,7,none⟩ = some (.int .i64 x103007_1) := (blk_cell BK102.out 7).trans rfl;have hcz36_8 : w34.cell? ⟨gb102,8,none⟩ = some (.int .i64 x103008_1) := (blk_cell BK102.out 8).trans rfl;have hcz36_9 : w34.cell? ⟨gb102,9,none⟩ = some (.int .i64 x103009_1) := (blk_cell BK102.out 9).trans rfl;have hcz36_10 : w34.cell? ⟨gb102,10,none⟩ = some (.int .i64 x103010_1) := (blk_cell BK102.out 10).trans rfl;have hcz36_11 : w34.cell? ⟨gb102,11,none⟩ = some (.int .i64 x103011_1) := (blk_cell BK102.out 11).trans rfl;have hfz36_0 := blk_frozen BK102.out 0;have hfz36_1 := blk_frozen BK102.out 1;have hfz36_2 := blk_frozen BK102.out 2;have hfz36_3 := blk_frozen BK102.out 3;have hfz36_4 := blk_frozen BK102.out 4;have hfz36_5 := blk_frozen BK102.out 5;have hfz36_6 := blk_frozen BK102.out 6;have hfz36_7 := blk_frozen BK102.out 7;have hfz36_8 := blk_frozen BK102.out 8;have hfz36_9 := blk_frozen BK102.out 9;have hfz36_10 := blk_frozen BK102.out 10;have hfz36_11 := blk_frozen BK102.out 11) | ((with_reducible refine gate_store (t:=32) (p:=2) rfl ?_);refine store_event (t:=32) (p:=2) (v:=?vo_w37) (w1:=((((((((((((w34.setCell ⟨gb102,0,none⟩ (.int .i64 0)).setCell ⟨gb102,1,none⟩ (.int .i64 0)).setCell ⟨gb102,2,none⟩ (.int .i64 0)).setCell ⟨gb102,3,none⟩ (.int .i64 0)).setCell ⟨gb102,4,none⟩ (.int .i64 0)).setCell ⟨gb102,5,none⟩ (.int .i64 0)).setCell ⟨gb102,6,none⟩ (.int .i64 0)).setCell ⟨gb102,7,none⟩ (.int .i64 0)).setCell ⟨gb102,8,none⟩ (.int .i64 0)).setCell ⟨gb102,9,none⟩ (.int .i64 0)).setCell ⟨gb102,10,none⟩ (.int .i64 0)).setCell ⟨gb102,11,none⟩ (.int .i64 0))) ?hg ?ho ?hn ?hr ?_;(case ho => rfl);(case hg => rfl);(case hn => rfl);(case hr => first | (go_simp;done) | (go_simp;rfl));intro w37 hw;have n0_ : Aside0 (w37.heap[gb102]? = some (.cells #[.int .i64 0, .int .i64 0, .int .i64 0, .int .i64 0, .int .i64 0, .int .i64 0, .int .i64 0, .int .i64 0, .int .i64 0, .int .i64 0, .int .i64 0, .int .i64 0] 32 (0,0))) := ⟨(by rw [hw];exact (by (with_reducible repeat (first | refine blk_drewN ?_ _ | refine blk_drew ?_ | refine blk_alloc ?_ _));refine blk_put (cs:=#[.int .i64 0, .int .i64 0, .int .i64 0, .int .i64 0, .int .i64 0, .int .i64 0, .int .i64 0, .int .i64 0, .int .i64 0, .int .i64 0, .int .i64 0, .int .i64 x103011_1]) ?_ 11 _ rfl;(with_reducible repeat (first | refine blk_drewN ?_ _ | refine blk_drew ?_ | refine blk_alloc ?_ _));refine blk_put (cs:=#[.int .i64 0, .int .i64 0, .int .i64 0, .int .i64 0, .int .i64 0, .int .i64 0, .int .i64 0, .int .i64 0, .int .i64 0, .int .i64 0, .int .i64 x103010_1, .int .i64 x103011_1]) ?_ 10 _ rfl;(with_reducible repeat (first | refine blk_drewN ?_ _ | refine blk_drew ?_ | refine blk_alloc ?_ _));refine blk_put (cs:=#[.int .i64 0, .int .i64 0, .int .i64 0, .int .i64 0, .int .i64 0, .int .i64 0, .int .i64 0, .int .i64 0, .int .i64 0, .int .i64 x103009_1, .int .i64 x103010_1, .int .i64 x103011_1]) ?_ 9 _ rfl;(with_reducible repeat (first | refine blk_drewN ?_ _ | refine blk_drew ?_ | refine blk_alloc ?_ _));refine blk_put (cs:=#[.int .i64 0, .int .i64 0, .int .i64 0, .int .i64 0, .int .i64 0, .int .i64 0, .int .i64 0, .int .i64 0, .int .i64 x103008_1, .int .i64 x103009_1, .int .i64 x103010_1, .int .i64 x103011_1]) ?_ 8 _ rfl;(with_reducible repeat (first | refine blk_drewN ?_ _ | refine blk_drew ?_ | refine blk_alloc ?_ _));refine blk_put (cs:=#[.int .i64 0, .int .i64 0, .int .i64 0, .int .i64 0, .int .i64 0, .int .i64 0, .int .i64 0, .int .i64 x103007_1, .int .i64 x103008_1, .int .i64 x103009_1, .int .i64 x103010_1, .int .i64 x103011_1]) ?_ 7 _ rfl;(with_reducible repeat (first | refine blk_drewN ?_ _ | refine blk_drew ?_ | refine blk_alloc ?_ _));refine blk_put (cs:=#[.int .i64 0, .int .i64 0, .int .i64 0, .int .i64 0, .int .i64 0, .int .i64 0, .int .i64 x103006_1, .int .i64 x103007_1, .int .i64 x103008_1, .int .i64 x103009_1, .int .i64 x103010_1, .int .i64 x103011_1]) ?_ 6 _ rfl;(with_reducible repeat (first | refine blk_drewN ?_ _ | refine blk_drew ?_ | refine blk_alloc ?_ _));refine blk_put (cs:=#[.int .i64 0, .int .i64 0, .int .i64 0, .int .i64 0, .int .i64 0, .int .i64 x103005_1, .int .i64 x103006_1, .int .i64 x103007_1, .int .i64 x103008_1, .int .i64 x103009_1, .int .i64 x103010_1, .int .i64 x103011_1]) ?_ 5 _ rfl;(with_reducible repeat (first | refine blk_drewN ?_ _ | refine blk_drew ?_ | refine blk_alloc ?_ _));refine blk_put (cs:=#[.int .i64 0, .int .i64 0, .int .i64 0, .int .i64 0, .int .i64 x103004_1, .int .i64 x103005_1, .int .i64 x103006_1, .int .i64 x103007_1, .int .i64 x103008_1, .int .i64 x103009_1, .int .i64 x103010_1, .int .i64 x103011_1]) ?_ 4 _ rfl;(with_reducible repeat (first | refine blk_drewN ?_ _ | refine blk_drew ?_ | refine blk_alloc ?_ _));refine blk_put (cs:=#[.int .i64 0, .int .i64 0, .int .i64 0, .int .i64 x103003_1, .int .i64 x103004_1, .int .i64 x103005_1, .int .i64 x103006_1, .int .i64 x103007_1, .int .i64 x103008_1, .int .i64 x103009_1, .int .i64 x103010_1, .int .i64 x103011_1]) ?_ 3 _ rfl;(with_reducible repeat (first | refine blk_drewN ?_ _ | refine blk_drew ?_ | refine blk_alloc ?_ _));refine blk_put (cs:=#[.int .i64 0, .int .i64 0, .int .i64 x103002_1, .int .i64 x103003_1, .int .i64 x103004_1, .int .i64 x103005_1, .int .i64 x103006_1, .int .i64 x103007_1, .int .i64 x103008_1, .int .i64 x103009_1, .int .i64 x103010_1, .int .i64 x103011_1]) ?_ 2 _ rfl;(with_reducible repeat (first | refine blk_drewN ?_ _ | refine blk_drew ?_ | refine blk_alloc ?_ _));refine blk_put (cs:=#[.int .i64 0, .int .i64 x103001_1, .int .i64 x103002_1, .int .i64 x103003_1, .int .i64 x103004_1, .int .i64 x103005_1, .int .i64 x103006_1, .int .i64 x103007_1, .int .i64 x103008_1, .int .i64 x103009_1, .int .i64 x103010_1, .int .i64 x103011_1]) ?_ 1 _ rfl;(with_reducible repeat (first | refine blk_drewN ?_ _ | refine blk_drew ?_ | refine blk_alloc ?_ _));refine blk_put (cs:=#[.int .i64 x103000_1, .int .i64 x103001_1, .int .i64 x103002_1, .int .i64 x103003_1, .int .i64 x103004_1, .int .i64 x103005_1, .int .i64 x103006_1, .int .i64 x103007_1, .int .i64 x103008_1, .int .i64 x103009_1, .int .i64 x103010_1, .int .i64 x103011_1]) ?_ 0 _ rfl;(with_reducible repeat (first | refine blk_drewN ?_ _ | refine blk_drew ?_ | refine blk_alloc ?_ _));exact BK102.out))⟩;have n1_ : Aside0 (w37.heap[gb103]? = some (.cells #[.int .i64 x104000_1, .int .i64 x104001_1, .int .i64 x104002_1, .int .i64 x104003_1, .int .i64 x104004_1, .int .i64 x104005_1, .int .i64 x104006_1, .int .i64 x104007_1, .int .i64 x104008_1, .int .i64 x104009_1, .int .i64 x104010_1, .int .i64 x104011_1] 32 (0,0))) := ⟨(by rw [hw];exact (by (with_reducible repeat (first | refine blk_drewN ?_ _ | refine blk_drew ?_ | refine blk_alloc ?_ _));refine blk_far ?_ NB103_102.out _;(with_reducible repeat (first | refine blk_drewN ?_ _ | refine blk_drew ?_ | refine blk_alloc ?_ _));refine blk_far ?_ NB103_102.out _;(with_reducible repeat (first | refine blk_drewN ?_ _ | refine blk_drew ?_ | refine blk_alloc ?_ _));refine blk_far ?_ NB103_102.out _;(with_reducible repeat (first | refine blk_drewN ?_ _ | refine blk_drew ?_ | refine blk_alloc ?_ _));refine blk_far ?_ NB103_102.out _;(with_reducible repeat (first | refine blk_drewN ?_ _ | refine blk_drew ?_ | refine blk_alloc ?_ _));refine blk_far ?_ NB103_102.out _;(with_reducible repeat (first | refine blk_drewN ?_ _ | refine blk_drew ?_ | refine blk_alloc ?_ _));refine blk_far ?_ NB103_102.out _;(with_reducible repeat (first | refine blk_drewN ?_ _ | refine blk_drew ?_ | refine blk_alloc ?_ _));refine blk_far ?_ NB103_102.out _;(with_reducible repeat (first | refine blk_drewN ?_ _ | refine blk_drew ?_ | refine blk_alloc ?_ _));refine blk_far ?_ NB103_102.out _;(with_reducible repeat (first | refine blk_drewN ?_ _ | refine blk_drew ?_ | refine blk_alloc ?_ _));refine blk_far ?_ NB103_102.out _;(with_reducible repeat (first | refine blk_drewN ?_ _ | refine blk_drew ?_ | refine blk_alloc ?_ _));refine blk_far ?_ NB103_102.out _;(with_reducible repeat (first | refine blk_drewN ?_ _ | refine blk_drew ?_ | refine blk_alloc ?_ _));refine blk_far ?_ NB103_102.out _;(with_reducible repeat (first | refine blk_drewN ?_ _ | refine blk_drew ?_ | refine blk_alloc ?_ _));refine blk_far ?_ NB103_102.out _;(with_reducible repeat (first | refine blk_drewN ?_ _ | refine blk_drew ?_ | refine blk_alloc ?_ _));exact BK103.out))⟩;have n2_ : Aside0 (w37.heap[gb104]? = some (.cells #[.int .i64 x105000_2, .int .u64 x105001_2] 47 (0,0))) := ⟨(by rw [hw];exact (by (with_reducible repeat (first | refine blk_drewN ?_ _ | refine blk_drew ?_ | refine blk_alloc ?_ _));refine blk_far ?_ NB104_102.out _;(with_reducible repeat (first | refine blk_drewN ?_ _ | refine blk_drew ?_ | refine blk_alloc ?_ _));refine blk_far ?_ NB104_102.out _;(with_reducible repeat (first | refine blk_drewN ?_ _ | refine blk_drew ?_ | refine blk_alloc ?_ _));refine blk_far ?_ NB104_102.out _;(with_reducible repeat (first | refine blk_drewN ?_ _ | refine blk_drew ?_ | refine blk_alloc ?_ _));refine blk_far ?_ NB104_102.out _;(with_reducible repeat (first | refine blk_drewN ?_ _ | refine blk_drew ?_ | refine blk_alloc ?_ _));refine blk_far ?_ NB104_102.out _;(with_reducible repeat (first | refine blk_drewN ?_ _ | refine blk_drew ?_ | refine blk_alloc ?_ _));refine blk_far ?_ NB104_102.out _;(with_reducible repeat (first | refine blk_drewN ?_ _ | refine blk_drew ?_ | refine blk_alloc ?_ _));refine blk_far ?_ NB104_102.out _;(with_reducible repeat (first | refine blk_drewN ?_ _ | refine blk_drew ?_ | refine blk_alloc ?_ _));refine blk_far ?_ NB104_102.out _;(with_reducible repeat (first | refine blk_drewN ?_ _ | refine blk_drew ?_ | refine blk_alloc ?_ _));refine blk_far ?_ NB104_102.out _;(with_reducible repeat (first | refine blk_drewN ?_ _ | refine blk_drew ?_ | refine blk_alloc ?_ _));refine blk_far ?_ NB104_102.out _;(with_reducible repeat (first | refine blk_drewN ?_ _ | refine blk_drew ?_ | refine blk_alloc ?_ _));refine blk_far ?_ NB104_102.out _;(with_reducible repeat (first | refine blk_drewN ?_ _ | refine blk_drew ?_ | refine blk_alloc ?_ _));refine blk_far ?_ NB104_102.out _;(with_reducible repeat (first | refine blk_drewN ?_ _ | refine blk_drew ?_ | refine blk_alloc ?_ _));exact BK104.out))⟩;have n3_ : Aside0 (Below w.heap.size w w37) := ⟨(by rw [hw];exact (by repeat (first | (with_reducible first | exact HB.out | apply below_alloc | apply pw_below_drewN | apply below_drew1 | refine below_set ?_ GE102.out | refine below_set ?_ GE103.out | refine below_set ?_ GE104.out) | exact HB.out)))⟩;clear hw;clear BK102;clear BK103;clear BK104;clear HB;have BK102 := n0_;have BK103 := n1_;have BK104 := n2_;have HB := n3_;clear n0_ n1_ n2_ n3_))
        refine bodyPost_ret (results_ct rfl _ _ gb102 32 #[.int .i64 0, .int .i64 0, .int .i64 0, .int .i64 0, .int .i64 0, .int .i64 0, .int .i64 0, .int .i64 0, .int .i64 0, .int .i64 0, .int .i64 0, .int .i64 0] (0,0) _ rfl (by (with_reducible repeat (first | refine blk_drewN ?_ _ | refine blk_drew ?_ | refine blk_alloc ?_ _));exact BK102.out) Try.underlying32 rfl (by kernel_rfl)) rfl ?_
        exact ⟨by first | rfl | (simp [errW_none,errW_some] <;> rfl) | (simp [*,errW_none,errW_some] <;> rfl),by repeat (first | (with_reducible first | exact HB.out | apply below_alloc | apply pw_below_drewN | apply below_drew1 | refine below_set ?_ GE102.out | refine below_set ?_ GE103.out | refine below_set ?_ GE104.out) | exact HB.out)⟩
   ·
    rw [if_neg c4] at H
    have c4b0 : decide (x11_1 < 12) = false := decide_eq_false c4
    clear c4
    simp only [Option.some.injEq,Prod.mk.injEq] at H
    obtain ⟨rfl,rfl,rfl,rfl,rfl,rfl,rfl,rfl,rfl,rfl,rfl,rfl,rfl⟩ := H
    have hnb38 := NB103_102.out
    have hnc38 := NB102_103.out
    have hcz39_0 : wr.cell? ⟨gb103,0,none⟩ = some (.int .i64 x104000_1) := (blk_cell BK103.out 0).trans rfl
    have hcz39_1 : wr.cell? ⟨gb103,1,none⟩ = some (.int .i64 x104001_1) := (blk_cell BK103.out 1).trans rfl
    have hcz39_2 : wr.cell? ⟨gb103,2,none⟩ = some (.int .i64 x104002_1) := (blk_cell BK103.out 2).trans rfl
    have hcz39_3 : wr.cell? ⟨gb103,3,none⟩ = some (.int .i64 x104003_1) := (blk_cell BK103.out 3).trans rfl
    have hcz39_4 : wr.cell? ⟨gb103,4,none⟩ = some (.int .i64 x104004_1) := (blk_cell BK103.out 4).trans rfl
    have hcz39_5 : wr.cell? ⟨gb103,5,none⟩ = some (.int .i64 x104005_1) := (blk_cell BK103.out 5).trans rfl
    have hcz39_6 : wr.cell? ⟨gb103,6,none⟩ = some (.int .i64 x104006_1) := (blk_cell BK103.out 6).trans rfl
    have hcz39_7 : wr.cell? ⟨gb103,7,none⟩ = some (.int .i64 x104007_1) := (blk_cell BK103.out 7).trans rfl
    have hcz39_8 : wr.cell? ⟨gb103,8,none⟩ = some (.int .i64 x104008_1) := (blk_cell BK103.out 8).trans rfl
    have hcz39_9 : wr.cell? ⟨gb103,9,none⟩ = some (.int .i64 x104009_1) := (blk_cell BK103.out 9).trans rfl
    have hcz39_10 : wr.cell? ⟨gb103,10,none⟩ = some (.int .i64 x104010_1) := (blk_cell BK103.out 10).trans rfl
    have hcz39_11 : wr.cell? ⟨gb103,11,none⟩ = some (.int .i64 x104011_1) := (blk_cell BK103.out 11).trans rfl
    have hfz39_0 := blk_frozen BK103.out 0
    have hfz39_1 := blk_frozen BK103.out 1
    have hfz39_2 := blk_frozen BK103.out 2
    have hfz39_3 := blk_frozen BK103.out 3
    have hfz39_4 := blk_frozen BK103.out 4
    have hfz39_5 := blk_frozen BK103.out 5
    have hfz39_6 := blk_frozen BK103.out 6
    have hfz39_7 := blk_frozen BK103.out 7
    have hfz39_8 := blk_frozen BK103.out 8
    have hfz39_9 := blk_frozen BK103.out 9
    have hfz39_10 := blk_frozen BK103.out 10
    have hfz39_11 := blk_frozen BK103.out 11
    have hcz40_0 : wr.cell? ⟨gb102,0,none⟩ = some (.int .i64 x103000_1) := (blk_cell BK102.out 0).trans rfl
    have hcz40_1 : wr.cell? ⟨gb102,1,none⟩ = some (.int .i64 x103001_1) := (blk_cell BK102.out 1).trans rfl
    have hcz40_2 : wr.cell? ⟨gb102,2,none⟩ = some (.int .i64 x103002_1) := (blk_cell BK102.out 2).trans rfl
    have hcz40_3 : wr.cell? ⟨gb102,3,none⟩ = some (.int .i64 x103003_1) := (blk_cell BK102.out 3).trans rfl
    have hcz40_4 : wr.cell? ⟨gb102,4,none⟩ = some (.int .i64 x103004_1) := (blk_cell BK102.out 4).trans rfl
    have hcz40_5 : wr.cell? ⟨gb102,5,none⟩ = some (.int .i64 x103005_1) := (blk_cell BK102.out 5).trans rfl
    have hcz40_6 : wr.cell? ⟨gb102,6,none⟩ = some (.int .i64 x103006_1) := (blk_cell BK102.out 6).trans rfl
    have hcz40_7 : wr.cell? ⟨gb102,7,none⟩ = some (.int .i64 x103007_1) := (blk_cell BK102.out 7).trans rfl
    have hcz40_8 : wr.cell? ⟨gb102,8,none⟩ = some (.int .i64 x103008_1) := (blk_cell BK102.out 8).trans rfl
    have hcz40_9 : wr.cell? ⟨gb102,9,none⟩ = some (.int .i64 x103009_1) := (blk_cell BK102.out 9).trans rfl
    have hcz40_10 : wr.cell? ⟨gb102,10,none⟩ = some (.int .i64 x103010_1) := (blk_cell BK102.out 10).trans rfl
    have hcz40_11 : wr.cell? ⟨gb102,11,none⟩ = some (.int .i64 x103011_1) := (blk_cell BK102.out 11).trans rfl
    have hfz40_0 := blk_frozen BK102.out 0
    have hfz40_1 := blk_frozen BK102.out 1
    have hfz40_2 := blk_frozen BK102.out 2
    have hfz40_3 := blk_frozen BK102.out 3
    have hfz40_4 := blk_frozen BK102.out 4
    have hfz40_5 := blk_frozen BK102.out 5
    have hfz40_6 := blk_frozen BK102.out 6
    have hfz40_7 := blk_frozen BK102.out 7
    have hfz40_8 := blk_frozen BK102.out 8
    have hfz40_9 := blk_frozen BK102.out 9
    have hfz40_10 := blk_frozen BK102.out 10
    have hfz40_11 := blk_frozen BK102.out 11
    go_wp2_with (first | ((with_reducible refine gate_store (t:=32) (p:=2) rfl ?_);refine store_event (t:=32) (p:=2) (v:=?vo_w41) (w1:=((((((((((((wr.setCell ⟨gb102,0,none⟩ (.int .i64 x104000_1)).setCell ⟨gb102,1,none⟩ (.int .i64 x104001_1)).setCell ⟨gb102,2,none⟩ (.int .i64 x104002_1)).setCell ⟨gb102,3,none⟩ (.int .i64 x104003_1)).setCell ⟨gb102,4,none⟩ (.int .i64 x104004_1)).setCell ⟨gb102,5,none⟩ (.int .i64 x104005_1)).setCell ⟨gb102,6,none⟩ (.int .i64 x104006_1)).setCell ⟨gb102,7,none⟩ (.int .i64 x104007_1)).setCell ⟨gb102,8,none⟩ (.int .i64 x104008_1)).setCell ⟨gb102,9,none⟩ (.int .i64 x104009_1)).setCell ⟨gb102,10,none⟩ (.int .i64 x104010_1)).setCell ⟨gb102,11,none⟩ (.int .i64 x104011_1))) ?hg ?ho ?hn ?hr ?_;(case ho => rfl);(case hg => rfl);(case hn => rfl);(case hr => first | (go_simp;done) | (go_simp;rfl));intro w41 hw;have n0_ : Aside0 (w41.heap[gb102]? = some (.cells #[.int .i64 x104000_1, .int .i64 x104001_1, .int .i64 x104002_1, .int .i64 x104003_1, .int .i64 x104004_1, .int .i64 x104005_1, .int .i64 x104006_1, .int .i64 x104007_1, .int .i64 x104008_1, .int .i64 x104009_1, .int .i64 x104010_1, .int .i64 x104011_1] 32 (0,0))) := ⟨(by rw [hw];exact (by (with_reducible repeat (first | refine blk_drewN ?_ _ | refine blk_drew ?_ | refine blk_alloc ?_ _));refine blk_put (cs:=#[.int .i64 x104000_1, .int .i64 x104001_1, .int .i64 x104002_1, .int .i64 x104003_1, .int .i64 x104004_1, .int .i64 x104005_1, .int .i64 x104006_1, .int .i64 x104007_1, .int .i64 x104008_1, .int .i64 x104009_1, .int .i64 x104010_1, .int .i64 x103011_1]) ?_ 11 _ rfl;(with_reducible repeat (first | refine blk_drewN ?_ _ | refine blk_drew ?_ | refine blk_alloc ?_ _));refine blk_put (cs:=#[.int .i64 x104000_1, .int .i64 x104001_1, .int .i64 x104002_1, .int .i64 x104003_1, .int .i64 x104004_1, .int .i64 x104005_1, .int .i64 x104006_1, .int .i64 x104007_1, .int .i64 x104008_1, .int .i64 x104009_1, .int .i64 x103010_1, .int .i64 x103011_1]) ?_ 10 _ rfl;(with_reducible repeat (first | refine blk_drewN ?_ _ | refine blk_drew ?_ | refine blk_alloc ?_ _));refine blk_put (cs:=#[.int .i64 x104000_1, .int .i64 x104001_1, .int .i64 x104002_1, .int .i64 x104003_1, .int .i64 x104004_1, .int .i64 x104005_1, .int .i64 x104006_1, .int .i64 x104007_1, .int .i64 x104008_1, .int .i64 x103009_1, .int .i64 x103010_1, .int .i64 x103011_1]) ?_ 9 _ rfl;(with_reducible repeat (first | refine blk_drewN ?_ _ | refine blk_drew ?_ | refine blk_alloc ?_ _));refine blk_put (cs:=#[.int .i64 x104000_1, .int .i64 x104001_1, .int .i64 x104002_1, .int .i64 x104003_1, .int .i64 x104004_1, .int .i64 x104005_1, .int .i64 x104006_1, .int .i64 x104007_1, .int .i64 x103008_1, .int .i64 x103009_1, .int .i64 x103010_1, .int .i64 x103011_1]) ?_ 8 _ rfl;(with_reducible repeat (first | refine blk_drewN ?_ _ | refine blk_drew ?_ | refine blk_alloc ?_ _));refine blk_put (cs:=#[.int .i64 x104000_1, .int .i64 x104001_1, .int .i64 x104002_1, .int .i64 x104003_1, .int .i64 x104004_1, .int .i64 x104005_1, .int .i64 x104006_1, .int .i64 x103007_1, .int .i64 x103008_1, .int .i64 x103009_1, .int .i64 x103010_1, .int .i64 x103011_1]) ?_ 7 _ rfl;(with_reducible repeat (first | refine blk_drewN ?_ _ | refine blk_drew ?_ | refine blk_alloc ?_ _));refine blk_put (cs:=#[.int .i64 x104000_1, .int .i64 x104001_1, .int .i64 x104002_1, .int .i64 x104003_1, .int .i64 x104004_1, .int .i64 x104005_1, .int .i64 x103006_1, .int .i64 x103007_1, .int .i64 x103008_1, .int .i64 x103009_1, .int .i64 x103010_1, .int .i64 x103011_1]) ?_ 6 _ rfl;(with_reducible repeat (first | refine blk_drewN ?_ _ | refine blk_drew ?_ | refine blk_alloc ?_ _));refine blk_put (cs:=#[.int .i64 x104000_1, .int .i64 x104001_1, .int .i64 x104002_1, .int .i64 x104003_1, .int .i64 x104004_1, .int .i64 x103005_1, .int .i64 x103006_1, .int .i64 x103007_1, .int .i64 x103008_1, .int .i64 x103009_1, .int .i64 x103010_1, .int .i64 x103011_1]) ?_ 5 _ rfl;(with_reducible repeat (first | refine blk_drewN ?_ _ | refine blk_drew ?_ | refine blk_alloc ?_ _));refine blk_put (cs:=#[.int .i64 x104000_1, .int .i64 x104001_1, .int .i64 x104002_1, .int .i64 x104003_1, .int .i64 x103004_1, .int .i64 x103005_1, .int .i64 x103006_1, .int .i64 x103007_1, .int .i64 x103008_1, .int .i64 x103009_1, .int .i64 x103010_1, .int .i64 x103011_1]) ?_ 4 _ rfl;(with_reducible repeat (first | refine blk_drewN ?_ _ | refine blk_drew ?_ | refine blk_alloc ?_ _));refine blk_put (cs:=#[.int .i64 x104000_1, .int .i64 x104001_1, .int .i64 x104002_1, .int .i64 x103003_1, .int .i64 x103004_1, .int .i64 x103005_1, .int .i64 x103006_1, .int .i64 x103007_1, .int .i64 x103008_1, .int .i64 x103009_1, .int .i64 x103010_1, .int .i64 x103011_1]) ?_ 3 _ rfl;(with_reducible repeat (first | refine blk_drewN ?_ _ | refine blk_drew ?_ | refine blk_alloc ?_ _));refine blk_put (cs:=#[.int .i64 x104000_1, .int .i64 x104001_1, .int .i64 x103002_1, .int .i64 x103003_1, .int .i64 x103004_1, .int .i64 x103005_1, .int .i64 x103006_1, .int .i64 x103007_1, .int .i64 x103008_1, .int .i64 x103009_1, .int .i64 x103010_1, .int .i64 x103011_1]) ?_ 2 _ rfl;(with_reducible repeat (first | refine blk_drewN ?_ _ | refine blk_drew ?_ | refine blk_alloc ?_ _));refine blk_put (cs:=#[.int .i64 x104000_1, .int .i64 x103001_1, .int .i64 x103002_1, .int .i64 x103003_1, .int .i64 x103004_1, .int .i64 x103005_1, .int .i64 x103006_1, .int .i64 x103007_1, .int .i64 x103008_1, .int .i64 x103009_1, .int .i64 x103010_1, .int .i64 x103011_1]) ?_ 1 _ rfl;(with_reducible repeat (first | refine blk_drewN ?_ _ | refine blk_drew ?_ | refine blk_alloc ?_ _));refine blk_put (cs:=#[.int .i64 x103000_1, .int .i64 x103001_1, .int .i64 x103002_1, .int .i64 x103003_1, .int .i64 x103004_1, .int .i64 x103005_1, .int .i64 x103006_1, .int .i64 x103007_1, .int .i64 x103008_1, .int .i64 x103009_1, .int .i64 x103010_1, .int .i64 x103011_1]) ?_ 0 _ rfl;(with_reducible repeat (first | refine blk_drewN ?_ _ | refine blk_drew ?_ | refine blk_alloc ?_ _));exact BK102.out))⟩;have n1_ : Aside0 (w41.heap[gb103]? = some (.cells #[.int .i64 x104000_1, .int .i64 x104001_1, .int .i64 x104002_1, .int .i64 x104003_1, .int .i64 x104004_1, .int .i64 x104005_1, .int .i64 x104006_1, .int .i64 x104007_1, .int .i64 x104008_1, .int .i64 x104009_1, .int .i64 x104010_1, .int .i64 x104011_1] 32 (0,0))) := ⟨(by rw [hw];exact (by (with_reducible repeat (first | refine blk_drewN ?_ _ | refine blk_drew ?_ | refine blk_alloc ?_ _));refine blk_far ?_ NB103_102.out _;(with_reducible repeat (first | refine blk_drewN ?_ _ | refine blk_drew ?_ | refine blk_alloc ?_ _));refine blk_far ?_ NB103_102.out _;(with_reducible repeat (first | refine blk_drewN ?_ _ | refine blk_drew ?_ | refine blk_alloc ?_ _));refine blk_far ?_ NB103_102.out _;(with_reducible repeat (first | refine blk_drewN ?_ _ | refine blk_drew ?_ | refine blk_alloc ?_ _));refine blk_far ?_ NB103_102.out _;(with_reducible repeat (first | refine blk_drewN ?_ _ | refine blk_drew ?_ | refine blk_alloc ?_ _));refine blk_far ?_ NB103_102.out _;(with_reducible repeat (first | refine blk_drewN ?_ _ | refine blk_drew ?_ | refine blk_alloc ?_ _));refine blk_far ?_ NB103_102.out _;(with_reducible repeat (first | refine blk_drewN ?_ _ | refine blk_drew ?_ | refine blk_alloc ?_ _));refine blk_far ?_ NB103_102.out _;(with_reducible repeat (first | refine blk_drewN ?_ _ | refine blk_drew ?_ | refine blk_alloc ?_ _));refine blk_far ?_ NB103_102.out _;(with_reducible repeat (first | refine blk_drewN ?_ _ | refine blk_drew ?_ | refine blk_alloc ?_ _));refine blk_far ?_ NB103_102.out _;(with_reducible repeat (first | refine blk_drewN ?_ _ | refine blk_drew ?_ | refine blk_alloc ?_ _));refine blk_far ?_ NB103_102.out _;(with_reducible repeat (first | refine blk_drewN ?_ _ | refine blk_drew ?_ | refine blk_alloc ?_ _));refine blk_far ?_ NB103_102.out _;(with_reducible repeat (first | refine blk_drewN ?_ _ | refine blk_drew ?_ | refine blk_alloc ?_ _));refine blk_far ?_ NB103_102.out _;(with_reducible repeat (first | refine blk_drewN ?_ _ | refine blk_drew ?_ | refine blk_alloc ?_ _));exact BK103.out))⟩;have n2_ : Aside0 (Below w.heap.size w w41) := ⟨(by rw [hw];exact (by repeat (first | (with_reducible first | exact HB.out | apply below_alloc | apply pw_below_drewN | apply below_drew1 | refine below_set ?_ GE102.out | refine below_set ?_ GE103.out) | exact HB.out)))⟩;clear hw;clear BK102;clear BK103;clear HB;have BK102 := n0_;have BK103 := n1_;have HB := n2_;clear n0_ n1_ n2_))
    refine bodyPost_ret (results_ct rfl _ _ gb102 32 #[.int .i64 x104000_1, .int .i64 x104001_1, .int .i64 x104002_1, .int .i64 x104003_1, .int .i64 x104004_1, .int .i64 x104005_1, .int .i64 x104006_1, .int .i64 x104007_1, .int .i64 x104008_1, .int .i64 x104009_1, .int .i64 x104010_1, .int .i64 x104011_1] (0,0) _ rfl (by (with_reducible repeat (first | refine blk_drewN ?_ _ | refine blk_drew ?_ | refine blk_alloc ?_ _));exact BK102.out) Try.underlying32 rfl (by kernel_rfl)) rfl ?_
    exact ⟨by first | rfl | (simp [errW_none,errW_some] <;> rfl) | (simp [*,errW_none,errW_some] <;> rfl),by repeat (first | (with_reducible first | exact HB.out | apply below_alloc | apply pw_below_drewN | apply below_drew1 | refine below_set ?_ GE102.out | refine below_set ?_ GE103.out) | exact HB.out)⟩

/-! ### arrearsref1_high: function 26 -/
def arrearsref1_high.f (a0 : Int) : Option (Int) := some (a0 / 4294967296)
set_option maxHeartbeats 8000000 in
set_option maxRecDepth 100000 in
theorem arrearsref1_high.calls (a0 : Int) (r : Int) (w : World) (h : arrearsref1_high.f a0 = some r) :
  Calls Try.prog 26 #[.int .i64 a0] w fun e w' => e = .returned (.int .i64 r) ∧ Drawn0 w w' := by
 have H : (some (a0 / 4294967296)) = some r := h
 clear h
 obtain rfl := Option.some.inj H
 go_enter Try.func26,Try.ntmps26
 go_wp2
 go_ret
 exact ⟨by first | rfl | (simp;done) | (simp [*];done),by repeat (first | exact Drawn0.refl _ | apply Drawn0.step)⟩

/-! ### arrearsref1_lowOf: function 27 -/
def arrearsref1_lowOf.f (a0 : Int) : Option (Int) := (arrearsref1_high.f a0).bind fun t113 => (some (wrap64 (a0 - (wrap64 (t113 * 4294967296)))))
set_option maxHeartbeats 8000000 in
set_option maxRecDepth 100000 in
theorem arrearsref1_lowOf.calls (a0 : Int) (r : Int) (w : World) (h : arrearsref1_lowOf.f a0 = some r) :
  Calls Try.prog 27 #[.int .i64 a0] w fun e w' => e = .returned (.int .i64 r) ∧ Drawn0 w w' := by
 have H : ((arrearsref1_high.f a0).bind fun t113 => (some (wrap64 (a0 - (wrap64 (t113 * 4294967296)))))) = some r := h
 clear h
 replace H := Option.bind_eq_some_iff.mp H
 obtain ⟨t113,A20,H⟩ := H
 replace H : (some (wrap64 (a0 - (wrap64 (t113 * 4294967296))))) = some r := H
 have A2 := Aside0.mk A20
 clear A20
 obtain rfl := Option.some.inj H
 go_enter Try.func27,Try.ntmps27
 go_wp2_with (first | ((with_reducible refine gate_callee (f:=26) rfl ?_);refine goesL_ (some 5) rfl rfl Try.func26 (by kernel_rfl) rfl #[.int .i64 a0] rfl (by (try simp only [List.map_toArray,List.map_cons,List.map_nil]);first | done | rfl | (simp only [List.length_drop,List.length_take];rfl)) ?_;(with_reducible refine (arrearsref1_high.calls a0 t113 _ A2.out).mono ?_);rintro e w' ⟨rfl,⟨nd,rfl⟩⟩;refine ⟨_,rfl,?_⟩))
 go_ret
 exact ⟨by first | rfl | (simp;done) | (simp [*];done),by repeat (first | exact Drawn0.refl _ | apply Drawn0.step)⟩

/-! ### arrearsref1_joined: function 28 -/
def arrearsref1_joined.f (a0 : Int) (a1 : Int) : Option (Int × Bool) := if (wrap64 (a0 + (a1 / 4294967296))) < (-2147483648) then (some (0,false)) else (if (wrap64 (a0 + (a1 / 4294967296))) > 2147483647 then (some (0,false)) else (some (wrap64 ((wrap64 ((wrap64 (a0 + (a1 / 4294967296))) * 4294967296)) + (wrap64 (a1 - (wrap64 ((a1 / 4294967296) * 4294967296))))),true)))
set_option maxHeartbeats 8000000 in
set_option maxRecDepth 100000 in
theorem arrearsref1_joined.calls (a0 : Int) (a1 : Int) (r1 : Int) (r2 : Bool) (w : World) (h : arrearsref1_joined.f a0 a1 = some (r1,r2)) :
  Calls Try.prog 28 #[.int .i64 a0, .int .i64 a1] w fun e w' => e = .returned (.tuple #[.int .i64 r1, .bool r2]) ∧ Drawn0 w w' := by
 have H : (if (wrap64 (a0 + (a1 / 4294967296))) < (-2147483648) then (some (0,false)) else (if (wrap64 (a0 + (a1 / 4294967296))) > 2147483647 then (some (0,false)) else (some (wrap64 ((wrap64 ((wrap64 (a0 + (a1 / 4294967296))) * 4294967296)) + (wrap64 (a1 - (wrap64 ((a1 / 4294967296) * 4294967296))))),true)))) = some (r1,r2) := h
 clear h
 by_cases c3 : (wrap64 (a0 + (a1 / 4294967296))) < (-2147483648)
 ·
  rw [if_pos c3] at H
  have c3b0 : decide ((wrap64 (a0 + (a1 / 4294967296))) < (-2147483648)) = true := decide_eq_true c3
  clear c3
  simp only [Option.some.injEq,Prod.mk.injEq] at H
  obtain ⟨rfl,rfl⟩ := H
  go_enter Try.func28,Try.ntmps28
  go_wp2
  go_ret2
  exact ⟨by first | rfl | (simp;done) | (simp [*];done),by repeat (first | exact Drawn0.refl _ | apply Drawn0.step)⟩
 ·
  rw [if_neg c3] at H
  have c3b0 : decide ((wrap64 (a0 + (a1 / 4294967296))) < (-2147483648)) = false := decide_eq_false c3
  clear c3
  by_cases c4 : (wrap64 (a0 + (a1 / 4294967296))) > 2147483647
  ·
   rw [if_pos c4] at H
   have c4b0 : decide (2147483647 < (wrap64 (a0 + (a1 / 4294967296)))) = true := decide_eq_true c4
   clear c4
   simp only [Option.some.injEq,Prod.mk.injEq] at H
   obtain ⟨rfl,rfl⟩ := H
   go_enter Try.func28,Try.ntmps28
   go_wp2
   go_ret2
   exact ⟨by first | rfl | (simp;done) | (simp [*];done),by repeat (first | exact Drawn0.refl _ | apply Drawn0.step)⟩
  ·
   rw [if_neg c4] at H
   have c4b0 : decide (2147483647 < (wrap64 (a0 + (a1 / 4294967296)))) = false := decide_eq_false c4
   clear c4
   simp only [Option.some.injEq,Prod.mk.injEq] at H
   obtain ⟨rfl,rfl⟩ := H
   go_enter Try.func28,Try.ntmps28
   go_wp2
   go_ret2
   exact ⟨by first | rfl | (simp;done) | (simp [*];done),by repeat (first | exact Drawn0.refl _ | apply Drawn0.step)⟩

/-! ### arrearsref1_Sum: function 23 -/
def arrearsref1_Sum.l0 : Nat → List Int → Int → Int → Int → Option (Int × Bool)
 | 0,_,_,_,_ => none
 | k + 1,x0,x4,x5,x6 => if x6 < (x0.length : Int) then (if 0 ≤ x6 then ((arrearsref1_high.f (rd x0 x6)).bind fun t115 => ((arrearsref1_lowOf.f (rd x0 x6)).bind fun t117 => (arrearsref1_Sum.l0 k x0 (wrap64 (x4 + t115)) (wrap64 (x5 + t117)) (wrap64 (x6 + 1))))) else (none)) else ((arrearsref1_joined.f x4 x5).bind fun bt118 => (some (bt118.1,bt118.2)))
def arrearsref1_Sum.f (k : Nat) (l0 : List Int) : Option (Int × Bool) := arrearsref1_Sum.l0 k l0 0 0 0
theorem arrearsref1_Sum.mono_l : ∀ k,(∀ y0 y1 y2 y3,LeO (arrearsref1_Sum.l0 k y0 y1 y2 y3) (arrearsref1_Sum.l0 (k + 1) y0 y1 y2 y3))
 | 0 => fun _ _ _ _ r h => by simp [arrearsref1_Sum.l0] at h
 | k + 1 => by
  have ih0 := arrearsref1_Sum.mono_l k
  ·
   intro y0 y1 y2 y3
   unfold arrearsref1_Sum.l0
   repeat' first
   | (with_reducible exact ih0 _ _ _ _)
   | (with_reducible exact LeO.refl _)
   | (with_reducible exact LeO.none _)
   | (with_reducible refine LeO.ite ?_ ?_)
   | (with_reducible refine LeO.bind ?_ (fun _ => ?_))
   | exact ih0 _ _ _ _
   | exact LeO.none _
   | refine LeO.ite ?_ ?_
   | refine LeO.bind ?_ (fun _ => ?_)
theorem arrearsref1_Sum.mono : ∀ a0 k,LeO (arrearsref1_Sum.f k a0) (arrearsref1_Sum.f (k + 1) a0) := by
 intro a0 k
 have ih0 := arrearsref1_Sum.mono_l k
 unfold arrearsref1_Sum.f
 repeat' first
   | (with_reducible exact ih0 _ _ _ _)
   | (with_reducible exact LeO.refl _)
   | (with_reducible exact LeO.none _)
   | (with_reducible refine LeO.ite ?_ ?_)
   | (with_reducible refine LeO.bind ?_ (fun _ => ?_))
   | exact ih0 _ _ _ _
   | exact LeO.none _
   | refine LeO.ite ?_ ?_
   | refine LeO.bind ?_ (fun _ => ?_)
set_option maxHeartbeats 8000000 in
set_option maxRecDepth 100000 in
theorem arrearsref1_Sum.calls (k : Nat) (A0 : Option Addr) (c0 : Nat) (l0 : List Int) (r1 : Int) (r2 : Bool) (w : World) (hr0 : Kd.C (Kd.int .i64) w A0 l0.length l0) (hc0 : l0.length ≤ c0) (h : arrearsref1_Sum.f k l0 = some (r1,r2)) :
  Calls Try.prog 23 #[.slice A0 l0.length c0] w fun e w' => e = .returned (.tuple #[.int .i64 r1, .bool r2]) ∧ Drawn0 w w' := by
 have HR0 := Aside0.mk hr0
 have HC0 := Aside0.mk hc0
 clear hr0 hc0
 have H : (arrearsref1_Sum.l0 k l0 0 0 0) = some (r1,r2) := h
 clear h
 have H' := Aside0.mk H
 clear H
 go_enter Try.func23,Try.ntmps23
 go_wp2
 go_loopg [4,5,6] k (fun kq v4 v5 v6 w' => ∃ (x4_1 : Int) (x5_1 : Int) (x6_1 : Int),v4 = .int .i64 x4_1 ∧ v5 = .int .i64 x5_1 ∧ v6 = .int .i64 x6_1 ∧ Aside0 (arrearsref1_Sum.l0 kq l0 x4_1 x5_1 x6_1 = some (r1,r2)) ∧ Aside0 (kq ≤ k) ∧ Drawn0 w w')
 case atStart => exact ⟨(0),(0),(0),(by first | rfl | (simp;done) | (simp [*];done)),(by first | rfl | (simp;done) | (simp [*];done)),(by first | rfl | (simp;done) | (simp [*];done)),H',⟨Nat.le_refl _⟩,by repeat (first | exact Drawn0.refl _ | apply Drawn0.step)⟩
 case round =>
  clear H'
  obtain ⟨x4_1,x5_1,x6_1,rfl,rfl,rfl,HA,HK1,⟨m1,rfl⟩⟩ := hrel
  cases gk with
  | zero => exact absurd HA.out (by simp [arrearsref1_Sum.l0])
  | succ k1 =>
   have H := HA.out
   clear HA
   simp only [arrearsref1_Sum.l0] at H
   by_cases c2 : x6_1 < (l0.length : Int)
   ·
    rw [if_pos c2] at H
    have c2b0 : decide (x6_1 < (l0.length : Int)) = true := decide_eq_true c2
    clear c2
    by_cases c3 : 0 ≤ x6_1
    ·
     rw [if_pos c3] at H
     have c3b0 : decide (0 ≤ x6_1) = true := decide_eq_true c3
     clear c3
     replace H := Option.bind_eq_some_iff.mp H
     obtain ⟨t115,A40,H⟩ := H
     replace H : ((arrearsref1_lowOf.f (rd l0 x6_1)).bind fun t117 => (arrearsref1_Sum.l0 k1 l0 (wrap64 (x4_1 + t115)) (wrap64 (x5_1 + t117)) (wrap64 (x6_1 + 1)))) = some (r1,r2) := H
     have A4 := Aside0.mk A40
     clear A40
     replace H := Option.bind_eq_some_iff.mp H
     obtain ⟨t117,A50,H⟩ := H
     replace H : (arrearsref1_Sum.l0 k1 l0 (wrap64 (x4_1 + t115)) (wrap64 (x5_1 + t117)) (wrap64 (x6_1 + 1))) = some (r1,r2) := H
     have A5 := Aside0.mk A50
     clear A50
     have H' := Aside0.mk H
     clear H
     have p114 : 0 ≤ (x6_1 : Int) := of_decide_eq_true (by first | (with_reducible assumption) | assumption)
     have q114 : x6_1 < (l0.length : Int) := of_decide_eq_true (by first | (with_reducible assumption) | assumption)
     obtain ⟨ad114,e114,hx114_0⟩ := Kd.at_int HR0.out x6_1 p114 q114
     cases e114
     replace p114 := eq_true p114
     replace q114 := eq_true q114
     go_wp2_with (first | ((with_reducible refine gate_callee (f:=26) rfl ?_);refine goesL_ (some 18) rfl rfl Try.func26 (by kernel_rfl) rfl #[.int .i64 (rd l0 x6_1)] rfl (by (try simp only [List.map_toArray,List.map_cons,List.map_nil]);first | done | rfl | (simp only [List.length_drop,List.length_take];rfl)) ?_;(with_reducible refine (arrearsref1_high.calls (rd l0 x6_1) t115 _ A4.out).mono ?_);rintro e w' ⟨rfl,⟨nd,rfl⟩⟩;refine ⟨_,rfl,?_⟩;have p116 : 0 ≤ (x6_1 : Int) := of_decide_eq_true (by first | (with_reducible assumption) | assumption);have q116 : x6_1 < (l0.length : Int) := of_decide_eq_true (by first | (with_reducible assumption) | assumption);obtain ⟨ad116,e116,hx116_0⟩ := Kd.at_int HR0.out x6_1 p116 q116;obtain rfl : ad114 = ad116 := (by injection e116);replace p116 := eq_true p116;replace q116 := eq_true q116) | ((with_reducible refine gate_callee (f:=27) rfl ?_);refine goesL_ (some 25) rfl rfl Try.func27 (by kernel_rfl) rfl #[.int .i64 (rd l0 x6_1)] rfl (by (try simp only [List.map_toArray,List.map_cons,List.map_nil]);first | done | rfl | (simp only [List.length_drop,List.length_take];rfl)) ?_;(with_reducible refine (arrearsref1_lowOf.calls (rd l0 x6_1) t117 _ A5.out).mono ?_);rintro e w' ⟨rfl,⟨nd,rfl⟩⟩;refine ⟨_,rfl,?_⟩))
     go_roundg k1
     case measure => have := HK1.out;omega
     case rel => exact ⟨(wrap64 (x4_1 + t115)),(wrap64 (x5_1 + t117)),(wrap64 (x6_1 + 1)),(by first | rfl | (simp;done) | (simp [*];done)),(by first | rfl | (simp;done) | (simp [*];done)),(by first | rfl | (simp;done) | (simp [*];done)),H',⟨by have := HK1.out;omega⟩,by repeat (first | exact Drawn0.refl _ | apply Drawn0.step)⟩
    ·
     rw [if_neg c3] at H
     exact absurd H (by simp)
   ·
    rw [if_neg c2] at H
    have c2b0 : decide (x6_1 < (l0.length : Int)) = false := decide_eq_false c2
    clear c2
    replace H := Option.bind_eq_some_iff.mp H
    obtain ⟨⟨t118,t119⟩,A60,H⟩ := H
    replace H : (some (t118,t119)) = some (r1,r2) := H
    have A6 := Aside0.mk A60
    clear A60
    simp only [Option.some.injEq,Prod.mk.injEq] at H
    obtain ⟨rfl,rfl⟩ := H
    go_wp2_with (first | ((with_reducible refine gate_callee (f:=28) rfl ?_);refine goesL_ (some 29) rfl rfl Try.func28 (by kernel_rfl) rfl #[.int .i64 x4_1, .int .i64 x5_1] rfl (by (try simp only [List.map_toArray,List.map_cons,List.map_nil]);first | done | rfl | (simp only [List.length_drop,List.length_take];rfl)) ?_;(with_reducible refine (arrearsref1_joined.calls x4_1 x5_1 t118 t119 _ A6.out).mono ?_);rintro e w' ⟨rfl,⟨nd,rfl⟩⟩;refine ⟨_,rfl,?_⟩))
    go_ret2
    exact ⟨by first | rfl | (simp;done) | (simp [*];done),by repeat (first | exact Drawn0.refl _ | apply Drawn0.step)⟩

end Go.Proofs.Ytmppfpdaglkhkaa.Z
