import Derived.Test.YtmppfpdaglkhkaaZx0
import Derived.Test.YtmppfpdaglkhkaaZx1
namespace Go.Proofs.Ytmppfpdaglkhkaa.Z
open Go.RowKit Go.Proofs.YtmppfpdaglkhkaaW.PrintWords Go.Proofs.YtmppfpdaglkhkaaW.PrintLast Go.Proofs.YtmppfpdaglkhkaaW.PrintMore
attribute [local go_sem] max2_int min2_int max_two min_two max_three min_three max_four min_four   -- for this text's walks alone
set_option linter.unusedVariables false
set_option linter.unusedSimpArgs false

/-! ### arrearsref8_Total: function 15 -/
mutual
def arrearsref8_Total.l0 : Nat → List (S32) → Int → Int → Int → Int → Int → Int → Int → Int → Int → Int → Int → Int → Int → Option (Int × Int × Int × Int × Int × Int × Int × Int × Int × Int × Int × Int × Bool)
 | 0,_,_,_,_,_,_,_,_,_,_,_,_,_,_ => none
 | k + 1,x0,x5,x122000,x122001,x122002,x122003,x122004,x122005,x122006,x122007,x122008,x122009,x122010,x122011 => if x5 < 12 then (arrearsref8_Total.l1 k x0 x5 ([] : List Int) 0 x122000 x122001 x122002 x122003 x122004 x122005 x122006 x122007 x122008 x122009 x122010 x122011) else (some (x122000,x122001,x122002,x122003,x122004,x122005,x122006,x122007,x122008,x122009,x122010,x122011,true))
def arrearsref8_Total.l1 : Nat → List (S32) → Int → List Int → Int → Int → Int → Int → Int → Int → Int → Int → Int → Int → Int → Int → Int → Option (Int × Int × Int × Int × Int × Int × Int × Int × Int × Int × Int × Int × Bool)
 | 0,_,_,_,_,_,_,_,_,_,_,_,_,_,_,_,_ => none
 | k + 1,x0,x5,x6,x7,x122000,x122001,x122002,x122003,x122004,x122005,x122006,x122007,x122008,x122009,x122010,x122011 => if x7 < (x0.length : Int) then (if 0 ≤ x7 then (if 0 ≤ x5 then (if x5 < 12 then (if x6.length < 17592186044416 then (arrearsref8_Total.l1 k x0 x5 (x6 ++ [selI [(rd_T32 x0 x7).f0.f0,(rd_T32 x0 x7).f0.f1,(rd_T32 x0 x7).f0.f2,(rd_T32 x0 x7).f0.f3,(rd_T32 x0 x7).f0.f4,(rd_T32 x0 x7).f0.f5,(rd_T32 x0 x7).f0.f6,(rd_T32 x0 x7).f0.f7,(rd_T32 x0 x7).f0.f8,(rd_T32 x0 x7).f0.f9,(rd_T32 x0 x7).f0.f10,(rd_T32 x0 x7).f0.f11] x5]) (wrap64 (x7 + 1)) x122000 x122001 x122002 x122003 x122004 x122005 x122006 x122007 x122008 x122009 x122010 x122011) else (none)) else (none)) else (none)) else (none)) else ((arrearsref1_Sum.f k x6).bind fun bt127 => (if bt127.2 = true then (if 0 ≤ x5 then (if x5 < 12 then (arrearsref8_Total.l0 k x0 (wrap64 (x5 + 1)) (putI x5 0 bt127.1 x122000) (putI x5 1 bt127.1 x122001) (putI x5 2 bt127.1 x122002) (putI x5 3 bt127.1 x122003) (putI x5 4 bt127.1 x122004) (putI x5 5 bt127.1 x122005) (putI x5 6 bt127.1 x122006) (putI x5 7 bt127.1 x122007) (putI x5 8 bt127.1 x122008) (putI x5 9 bt127.1 x122009) (putI x5 10 bt127.1 x122010) (putI x5 11 bt127.1 x122011)) else (none)) else (none)) else (some (0,0,0,0,0,0,0,0,0,0,0,0,false))))
end
def arrearsref8_Total.f (k : Nat) (l0 : List (S32)) : Option (Int × Int × Int × Int × Int × Int × Int × Int × Int × Int × Int × Int × Bool) := arrearsref8_Total.l0 k l0 0 0 0 0 0 0 0 0 0 0 0 0 0
theorem arrearsref8_Total.mono_l : ∀ k,(∀ y0 y1 y2 y3 y4 y5 y6 y7 y8 y9 y10 y11 y12 y13,LeO (arrearsref8_Total.l0 k y0 y1 y2 y3 y4 y5 y6 y7 y8 y9 y10 y11 y12 y13) (arrearsref8_Total.l0 (k + 1) y0 y1 y2 y3 y4 y5 y6 y7 y8 y9 y10 y11 y12 y13)) ∧ (∀ y0 y1 y2 y3 y4 y5 y6 y7 y8 y9 y10 y11 y12 y13 y14 y15,LeO (arrearsref8_Total.l1 k y0 y1 y2 y3 y4 y5 y6 y7 y8 y9 y10 y11 y12 y13 y14 y15) (arrearsref8_Total.l1 (k + 1) y0 y1 y2 y3 y4 y5 y6 y7 y8 y9 y10 y11 y12 y13 y14 y15))
 | 0 => ⟨fun _ _ _ _ _ _ _ _ _ _ _ _ _ _ r h => by simp [arrearsref8_Total.l0] at h,fun _ _ _ _ _ _ _ _ _ _ _ _ _ _ _ _ r h => by simp [arrearsref8_Total.l1] at h⟩
 | k + 1 => by
  obtain ⟨ih0,ih1⟩ := arrearsref8_Total.mono_l k
  refine ⟨?_,?_⟩
  ·
   intro y0 y1 y2 y3 y4 y5 y6 y7 y8 y9 y10 y11 y12 y13
   unfold arrearsref8_Total.l0
   repeat' first
   | (with_reducible exact ih0 _ _ _ _ _ _ _ _ _ _ _ _ _ _)
   | (with_reducible exact ih1 _ _ _ _ _ _ _ _ _ _ _ _ _ _ _ _)
   | (with_reducible exact arrearsref1_Sum.mono _ _)
   | (with_reducible exact LeO.refl _)
   | (with_reducible exact LeO.none _)
   | (with_reducible refine LeO.ite ?_ ?_)
   | (with_reducible refine LeO.bind ?_ (fun _ => ?_))
   | exact ih0 _ _ _ _ _ _ _ _ _ _ _ _ _ _
   | exact ih1 _ _ _ _ _ _ _ _ _ _ _ _ _ _ _ _
   | exact arrearsref1_Sum.mono _ _
   | exact LeO.none _
   | refine LeO.ite ?_ ?_
   | refine LeO.bind ?_ (fun _ => ?_)
  ·
   intro y0 y1 y2 y3 y4 y5 y6 y7 y8 y9 y10 y11 y12 y13 y14 y15
   unfold arrearsref8_Total.l1
   repeat' first
   | (with_reducible exact ih0 _ _ _ _ _ _ _ _ _ _ _ _ _ _)
   | (with_reducible exact ih1 _ _ _ _ _ _ _ _ _ _ _ _ _ _ _ _)
   | (with_reducible exact arrearsref1_Sum.mono _ _)
   | (with_reducible exact LeO.refl _)
   | (with_reducible exact LeO.none _)
   | (with_reducible refine LeO.ite ?_ ?_)
   | (with_reducible refine LeO.bind ?_ (fun _ => ?_))
   | exact ih0 _ _ _ _ _ _ _ _ _ _ _ _ _ _
   | exact ih1 _ _ _ _ _ _ _ _ _ _ _ _ _ _ _ _
   | exact arrearsref1_Sum.mono _ _
   | exact LeO.none _
   | refine LeO.ite ?_ ?_
   | refine LeO.bind ?_ (fun _ => ?_)
theorem arrearsref8_Total.mono : ∀ a0 k,LeO (arrearsref8_Total.f k a0) (arrearsref8_Total.f (k + 1) a0) := by
 intro a0 k
 obtain ⟨ih0,ih1⟩ := arrearsref8_Total.mono_l k
 unfold arrearsref8_Total.f
 repeat' first
   | (with_reducible exact ih0 _ _ _ _ _ _ _ _ _ _ _ _ _ _)
   | (with_reducible exact ih1 _ _ _ _ _ _ _ _ _ _ _ _ _ _ _ _)
   | (with_reducible exact arrearsref1_Sum.mono _ _)
   | (with_reducible exact LeO.refl _)
   | (with_reducible exact LeO.none _)
   | (with_reducible refine LeO.ite ?_ ?_)
   | (with_reducible refine LeO.bind ?_ (fun _ => ?_))
   | exact ih0 _ _ _ _ _ _ _ _ _ _ _ _ _ _
   | exact ih1 _ _ _ _ _ _ _ _ _ _ _ _ _ _ _ _
   | exact arrearsref1_Sum.mono _ _
   | exact LeO.none _
   | refine LeO.ite ?_ ?_
   | refine LeO.bind ?_ (fun _ => ?_)
set_option maxHeartbeats 8000000 in
set_option maxRecDepth 100000 in
theorem arrearsref8_Total.calls (k : Nat) (A0 : Option Addr) (c0 : Nat) (l0 : List (S32)) (r1 : Int) (r2 : Int) (r3 : Int) (r4 : Int) (r5 : Int) (r6 : Int) (r7 : Int) (r8 : Int) (r9 : Int) (r10 : Int) (r11 : Int) (r12 : Int) (r13 : Bool) (w : World) (hr0 : Kd.C k32 w A0 l0.length l0) (hc0 : l0.length ≤ c0) (h : arrearsref8_Total.f k l0 = some (r1,r2,r3,r4,r5,r6,r7,r8,r9,r10,r11,r12,r13)) :
  Calls Try.prog 15 #[.slice A0 l0.length c0] w fun e w' => e = .returned (.tuple #[.agg #[.int .i64 r1, .int .i64 r2, .int .i64 r3, .int .i64 r4, .int .i64 r5, .int .i64 r6, .int .i64 r7, .int .i64 r8, .int .i64 r9, .int .i64 r10, .int .i64 r11, .int .i64 r12], .bool r13]) ∧ Below w.heap.size w w' := by
 have hu32 := Try.underlying32
 have HR0 := Aside0.mk hr0
 have HC0 := Aside0.mk hc0
 clear hr0 hc0
 have HB := Aside0.mk (Below.refl w.heap.size w)
 have H : (arrearsref8_Total.l0 k l0 0 0 0 0 0 0 0 0 0 0 0 0 0) = some (r1,r2,r3,r4,r5,r6,r7,r8,r9,r10,r11,r12,r13) := h
 clear h
 have H' := Aside0.mk H
 clear H
 go_enter Try.func15,Try.ntmps15
 go_wp2_with (first | ((with_reducible refine gate_dst (N:=2) rfl ?_);refine box_event ?hg (N:=2) ?hd (cs:=#[.int .i64 0, .int .i64 0, .int .i64 0, .int .i64 0, .int .i64 0, .int .i64 0, .int .i64 0, .int .i64 0, .int .i64 0, .int .i64 0, .int .i64 0, .int .i64 0]) (t:=32) ?hr ?_;(case hd => rfl);(case hg => rfl);(case hr => first | (go_simp;done) | (go_simp;rfl));intro gb120 hg w2 hbox hb;have n0_ := Aside0.mk (below_step (by repeat (first | (with_reducible first | exact HB.out | apply below_alloc | apply pw_below_drewN | apply below_drew1) | exact HB.out)) hb);have n1_ := Aside0.mk (hbox);have n2_ := Aside0.mk ((by rw [hg];exact (below_size (by repeat (first | (with_reducible first | exact HB.out | apply below_alloc | apply pw_below_drewN | apply below_drew1) | exact HB.out))) : w.heap.size ≤ gb120));have n3_ := Aside0.mk ((by rw [hg];exact (below_size (by repeat (first | (with_reducible first | exact HB.out | apply below_alloc | apply pw_below_drewN | apply below_drew1) | exact HB.out))) : w.heap.size ≤ gb120));clear HB;have HB := n0_;have BK120 := n1_;have GW120 := n2_;have GE120 := n3_;clear n0_ n1_ n2_ n3_;clear hb hbox hg) | ((with_reducible refine gate_dst (N:=4) rfl ?_);refine box_event ?hg (N:=4) ?hd (cs:=#[.int .i64 0, .int .i64 0, .int .i64 0, .int .i64 0, .int .i64 0, .int .i64 0, .int .i64 0, .int .i64 0, .int .i64 0, .int .i64 0, .int .i64 0, .int .i64 0]) (t:=32) ?hr ?_;(case hd => rfl);(case hg => rfl);(case hr => first | (go_simp;done) | (go_simp;rfl));intro gb121 hg w3 hbox hb;have n0_ := Aside0.mk (blk_below (g:=gb120) (o:=.cells #[.int .i64 0, .int .i64 0, .int .i64 0, .int .i64 0, .int .i64 0, .int .i64 0, .int .i64 0, .int .i64 0, .int .i64 0, .int .i64 0, .int .i64 0, .int .i64 0] 32 (0,0)) (by (with_reducible repeat (first | refine blk_drewN ?_ _ | refine blk_drew ?_ | refine blk_alloc ?_ _));exact BK120.out) hb);have n1_ := Aside0.mk (below_step (by repeat (first | (with_reducible first | exact HB.out | apply below_alloc | apply pw_below_drewN | apply below_drew1 | refine below_set ?_ GE120.out) | exact HB.out)) hb);have n2_ := Aside0.mk (hbox);have n3_ := Aside0.mk ((by rw [hg];exact (below_size (by repeat (first | (with_reducible first | exact HB.out | apply below_alloc | apply pw_below_drewN | apply below_drew1 | refine below_set ?_ GE120.out) | exact HB.out))) : w.heap.size ≤ gb121));have n4_ := Aside0.mk ((by rw [hg];exact (below_size (by repeat (first | (with_reducible first | exact HB.out | apply below_alloc | apply pw_below_drewN | apply below_drew1 | refine below_set ?_ GE120.out) | exact HB.out))) : w.heap.size ≤ gb121));have n5_ := Aside0.mk ((by rw [hg];exact Nat.ne_of_lt (blk_lt (g:=gb120) (o:=.cells #[.int .i64 0, .int .i64 0, .int .i64 0, .int .i64 0, .int .i64 0, .int .i64 0, .int .i64 0, .int .i64 0, .int .i64 0, .int .i64 0, .int .i64 0, .int .i64 0] 32 (0,0)) (by (with_reducible repeat (first | refine blk_drewN ?_ _ | refine blk_drew ?_ | refine blk_alloc ?_ _));exact BK120.out)) : gb120 ≠ gb121));have n6_ := Aside0.mk ((by rw [hg];exact Nat.ne_of_gt (blk_lt (g:=gb120) (o:=.cells #[.int .i64 0, .int .i64 0, .int .i64 0, .int .i64 0, .int .i64 0, .int .i64 0, .int .i64 0, .int .i64 0, .int .i64 0, .int .i64 0, .int .i64 0, .int .i64 0] 32 (0,0)) (by (with_reducible repeat (first | refine blk_drewN ?_ _ | refine blk_drew ?_ | refine blk_alloc ?_ _));exact BK120.out)) : gb121 ≠ gb120));clear BK120;clear HB;have BK120 := n0_;have HB := n1_;have BK121 := n2_;have GW121 := n3_;have GE121 := n4_;have NB120_121 := n5_;have NB121_120 := n6_;clear n0_ n1_ n2_ n3_ n4_ n5_ n6_;clear hb hbox hg))
 go_loopg [5] k (fun kq v5 w' => ∃ (x5_1 : Int) (x121000_1 : Int) (x121001_1 : Int) (x121002_1 : Int) (x121003_1 : Int) (x121004_1 : Int) (x121005_1 : Int) (x121006_1 : Int) (x121007_1 : Int) (x121008_1 : Int) (x121009_1 : Int) (x121010_1 : Int) (x121011_1 : Int) (x122000_1 : Int) (x122001_1 : Int) (x122002_1 : Int) (x122003_1 : Int) (x122004_1 : Int) (x122005_1 : Int) (x122006_1 : Int) (x122007_1 : Int) (x122008_1 : Int) (x122009_1 : Int) (x122010_1 : Int) (x122011_1 : Int),v5 = .int .i64 x5_1 ∧ Aside0 (arrearsref8_Total.l0 kq l0 x5_1 x122000_1 x122001_1 x122002_1 x122003_1 x122004_1 x122005_1 x122006_1 x122007_1 x122008_1 x122009_1 x122010_1 x122011_1 = some (r1,r2,r3,r4,r5,r6,r7,r8,r9,r10,r11,r12,r13)) ∧ Aside0 (kq ≤ k) ∧ Aside0 (w'.heap[gb120]? = some (.cells #[.int .i64 x121000_1, .int .i64 x121001_1, .int .i64 x121002_1, .int .i64 x121003_1, .int .i64 x121004_1, .int .i64 x121005_1, .int .i64 x121006_1, .int .i64 x121007_1, .int .i64 x121008_1, .int .i64 x121009_1, .int .i64 x121010_1, .int .i64 x121011_1] 32 (0,0))) ∧ Aside0 (w'.heap[gb121]? = some (.cells #[.int .i64 x122000_1, .int .i64 x122001_1, .int .i64 x122002_1, .int .i64 x122003_1, .int .i64 x122004_1, .int .i64 x122005_1, .int .i64 x122006_1, .int .i64 x122007_1, .int .i64 x122008_1, .int .i64 x122009_1, .int .i64 x122010_1, .int .i64 x122011_1] 32 (0,0))) ∧ Aside0 (Below w.heap.size w w'))
 case atStart => exact ⟨(0),(0),(0),(0),(0),(0),(0),(0),(0),(0),(0),(0),(0),(0),(0),(0),(0),(0),(0),(0),(0),(0),(0),(0),(0),(by first | rfl | (simp;done) | (simp [*];done)),H',⟨Nat.le_refl _⟩,⟨by (with_reducible repeat (first | refine blk_drewN ?_ _ | refine blk_drew ?_ | refine blk_alloc ?_ _));exact BK120.out⟩,⟨by (with_reducible repeat (first | refine blk_drewN ?_ _ | refine blk_drew ?_ | refine blk_alloc ?_ _));exact BK121.out⟩,⟨by repeat (first | (with_reducible first | exact HB.out | apply below_alloc | apply pw_below_drewN | apply below_drew1 | refine below_set ?_ GE120.out | refine below_set ?_ GE121.out) | exact HB.out)⟩⟩
 case round =>
  clear H'
  try clear c1
  try clear p2
  obtain ⟨x5_1,x121000_1,x121001_1,x121002_1,x121003_1,x121004_1,x121005_1,x121006_1,x121007_1,x121008_1,x121009_1,x121010_1,x121011_1,x122000_1,x122001_1,x122002_1,x122003_1,x122004_1,x122005_1,x122006_1,x122007_1,x122008_1,x122009_1,x122010_1,x122011_1,rfl,HA,HK1,BK120,BK121,HB⟩ := hrel
  cases gk with
  | zero => exact absurd HA.out (by simp [arrearsref8_Total.l0])
  | succ k1 =>
   have H := HA.out
   clear HA
   simp only [arrearsref8_Total.l0] at H
   by_cases c4 : x5_1 < 12
   ·
    rw [if_pos c4] at H
    have c4b0 : decide (x5_1 < 12) = true := decide_eq_true c4
    clear c4
    have H' := Aside0.mk H
    clear H
    go_wp2
    go_loopg [6,7] k1 (fun kq v6 v7 w' => ∃ (x6_2 : List Int) (x7_2 : Int),v7 = .int .i64 x7_2 ∧ Aside0 (arrearsref8_Total.l1 kq l0 x5_1 x6_2 x7_2 x122000_1 x122001_1 x122002_1 x122003_1 x122004_1 x122005_1 x122006_1 x122007_1 x122008_1 x122009_1 x122010_1 x122011_1 = some (r1,r2,r3,r4,r5,r6,r7,r8,r9,r10,r11,r12,r13)) ∧ Aside0 (kq ≤ k1) ∧ Aside0 (Kd.R (Kd.int .i64) 2 w' w.heap.size (fun _ => True) v6 x6_2) ∧ Aside0 (w'.heap[gb120]? = some (.cells #[.int .i64 x121000_1, .int .i64 x121001_1, .int .i64 x121002_1, .int .i64 x121003_1, .int .i64 x121004_1, .int .i64 x121005_1, .int .i64 x121006_1, .int .i64 x121007_1, .int .i64 x121008_1, .int .i64 x121009_1, .int .i64 x121010_1, .int .i64 x121011_1] 32 (0,0))) ∧ Aside0 (w'.heap[gb121]? = some (.cells #[.int .i64 x122000_1, .int .i64 x122001_1, .int .i64 x122002_1, .int .i64 x122003_1, .int .i64 x122004_1, .int .i64 x122005_1, .int .i64 x122006_1, .int .i64 x122007_1, .int .i64 x122008_1, .int .i64 x122009_1, .int .i64 x122010_1, .int .i64 x122011_1] 32 (0,0))) ∧ Aside0 (Below w.heap.size w w'))
    case atStart => exact ⟨(([] : List Int)),(0),(by first | rfl | (simp;done) | (simp [*];done)),H',⟨Nat.le_refl _⟩,⟨by first | exact Kd.R_nil _ _ _ _ _ | exact Kd.N_nil _ _ _ _ _ | exact Kd.V_nil _ _ _ _ _ | exact Kd.Q_nil _ _ _ _ _ | exact Kd.S_nil _ _ _ _ _⟩,⟨by (with_reducible repeat (first | refine blk_drewN ?_ _ | refine blk_drew ?_ | refine blk_alloc ?_ _));exact BK120.out⟩,⟨by (with_reducible repeat (first | refine blk_drewN ?_ _ | refine blk_drew ?_ | refine blk_alloc ?_ _));exact BK121.out⟩,⟨by repeat (first | (with_reducible first | exact HB.out | apply below_alloc | apply pw_below_drewN | apply below_drew1 | refine below_set ?_ GE120.out | refine below_set ?_ GE121.out) | exact HB.out)⟩⟩
    case round =>
     clear H'
     try clear c1
     try clear p2
     try clear c4
     try clear c4b0
     try clear p2
     obtain ⟨x6_2,x7_2,rfl,HA,HK2,HO_6,BK120,BK121,HB⟩ := hrel
     cases gk with
     | zero => exact absurd HA.out (by simp [arrearsref8_Total.l1])
     | succ k2 =>
      have H := HA.out
      clear HA
      simp only [arrearsref8_Total.l1] at H
      by_cases c5 : x7_2 < (l0.length : Int)
      ·
       rw [if_pos c5] at H
       have c5b0 : decide (x7_2 < (l0.length : Int)) = true := decide_eq_true c5
       clear c5
       by_cases c6 : 0 ≤ x7_2
       ·
        rw [if_pos c6] at H
        have c6b0 : decide (0 ≤ x7_2) = true := decide_eq_true c6
        clear c6
        by_cases c7 : 0 ≤ x5_1
        ·
         rw [if_pos c7] at H
         have c7b0 : decide (0 ≤ x5_1) = true := decide_eq_true c7
         clear c7
         by_cases c8 : x5_1 < 12
         ·
          rw [if_pos c8] at H
          have c8b0 : decide (x5_1 < 12) = true := decide_eq_true c8
          clear c8
          by_cases c9 : x6_2.length < 17592186044416
          ·
           rw [if_pos c9] at H
           have LMc9 := Aside0.mk c9
           clear c9
           obtain ⟨y124,hy124⟩ : ∃ y_ : List Int,y_ = (x6_2 ++ [selI [(rd_T32 l0 x7_2).f0.f0,(rd_T32 l0 x7_2).f0.f1,(rd_T32 l0 x7_2).f0.f2,(rd_T32 l0 x7_2).f0.f3,(rd_T32 l0 x7_2).f0.f4,(rd_T32 l0 x7_2).f0.f5,(rd_T32 l0 x7_2).f0.f6,(rd_T32 l0 x7_2).f0.f7,(rd_T32 l0 x7_2).f0.f8,(rd_T32 l0 x7_2).f0.f9,(rd_T32 l0 x7_2).f0.f10,(rd_T32 l0 x7_2).f0.f11] x5_1]) := ⟨_,rfl⟩
           replace H : (arrearsref8_Total.l1 k2 l0 x5_1 y124 (wrap64 (x7_2 + 1)) x122000_1 x122001_1 x122002_1 x122003_1 x122004_1 x122005_1 x122006_1 x122007_1 x122008_1 x122009_1 x122010_1 x122011_1) = some (r1,r2,r3,r4,r5,r6,r7,r8,r9,r10,r11,r12,r13) := by first | (rw [hy124];with_reducible exact H) | (have H2_ := (Option.bind_some _ _).symm.trans H;rw [hy124];with_reducible exact H2_) | (have H2_ := (Option.bind_some _ _).symm.trans H;with_reducible exact H2_) | with_reducible exact H | (rw [hy124];exact H) | exact H
           have Ny124 := Aside0.mk hy124
           clear hy124
           have H' := Aside0.mk H
           clear H
           have p122 : 0 ≤ (x7_2 : Int) := of_decide_eq_true (by first | (with_reducible assumption) | assumption)
           have q122 : x7_2 < (l0.length : Int) := of_decide_eq_true (by first | (with_reducible assumption) | assumption)
           obtain ⟨ad122,e122,hx122_0,hx122_1,hx122_2,hx122_3,hx122_4,hx122_5,hx122_6,hx122_7,hx122_8,hx122_9,hx122_10,hx122_11⟩ := at_T32 HR0.out x7_2 p122 q122
           cases e122
           replace hx122_0 := (HB.out.cell (World.block_lt_of_cell? w _ hx122_0)).trans hx122_0
           replace hx122_1 := (HB.out.cell (World.block_lt_of_cell? w _ hx122_1)).trans hx122_1
           replace hx122_2 := (HB.out.cell (World.block_lt_of_cell? w _ hx122_2)).trans hx122_2
           replace hx122_3 := (HB.out.cell (World.block_lt_of_cell? w _ hx122_3)).trans hx122_3
           replace hx122_4 := (HB.out.cell (World.block_lt_of_cell? w _ hx122_4)).trans hx122_4
           replace hx122_5 := (HB.out.cell (World.block_lt_of_cell? w _ hx122_5)).trans hx122_5
           replace hx122_6 := (HB.out.cell (World.block_lt_of_cell? w _ hx122_6)).trans hx122_6
           replace hx122_7 := (HB.out.cell (World.block_lt_of_cell? w _ hx122_7)).trans hx122_7
           replace hx122_8 := (HB.out.cell (World.block_lt_of_cell? w _ hx122_8)).trans hx122_8
           replace hx122_9 := (HB.out.cell (World.block_lt_of_cell? w _ hx122_9)).trans hx122_9
           replace hx122_10 := (HB.out.cell (World.block_lt_of_cell? w _ hx122_10)).trans hx122_10
           replace hx122_11 := (HB.out.cell (World.block_lt_of_cell? w _ hx122_11)).trans hx122_11
           replace p122 := eq_true p122
           replace q122 := eq_true q122
           have p123 : 0 ≤ (x5_1 : Int) := of_decide_eq_true (by first | (with_reducible assumption) | assumption)
           have q123 : (x5_1 : Int) < 12 := of_decide_eq_true (by first | (with_reducible assumption) | assumption)
           have hs123 := sel_elem12 .i64 hx122_0 hx122_1 hx122_2 hx122_3 hx122_4 hx122_5 hx122_6 hx122_7 hx122_8 hx122_9 hx122_10 hx122_11 x5_1 p123 q123
           (try rw [add_plain] at hs123)
           have t123 := eq_true (show (x5_1 : Int).toNat < 12 by omega)
           replace p123 := eq_true p123
           replace q123 := eq_true q123
           go_wp2_with (first | ((with_reducible refine gate_builtin (b:=.append) (xs:=#[.tmp 20, .tmp 28]) rfl ?_);at_builtin;refine Kd.R_append (Kd.int .i64) (w0:=w) w.heap.size rfl (.tmp 20) (.tmp 28) 51 2 (.int .i64 0) 8 rfl Try.underlying51 info2 rfl (by decide) (by omega) u6 x6_2 (selI [(rd_T32 l0 x7_2).f0.f0,(rd_T32 l0 x7_2).f0.f1,(rd_T32 l0 x7_2).f0.f2,(rd_T32 l0 x7_2).f0.f3,(rd_T32 l0 x7_2).f0.f4,(rd_T32 l0 x7_2).f0.f5,(rd_T32 l0 x7_2).f0.f6,(rd_T32 l0 x7_2).f0.f7,(rd_T32 l0 x7_2).f0.f8,(rd_T32 l0 x7_2).f0.f9,(rd_T32 l0 x7_2).f0.f10,(rd_T32 l0 x7_2).f0.f11] x5_1) [.int .i64 (selI [(rd_T32 l0 x7_2).f0.f0,(rd_T32 l0 x7_2).f0.f1,(rd_T32 l0 x7_2).f0.f2,(rd_T32 l0 x7_2).f0.f3,(rd_T32 l0 x7_2).f0.f4,(rd_T32 l0 x7_2).f0.f5,(rd_T32 l0 x7_2).f0.f6,(rd_T32 l0 x7_2).f0.f7,(rd_T32 l0 x7_2).f0.f8,(rd_T32 l0 x7_2).f0.f9,(rd_T32 l0 x7_2).f0.f10,(rd_T32 l0 x7_2).f0.f11] x5_1)] (fun _ => True) (fun _ => False) rfl rfl ?aP (fun _ hk => hk.elim) ?aF ?aO ?aB ?aS ?aL ?_;(case aP => exact rfl);(case aB => exact (by repeat (first | (with_reducible first | exact HB.out | apply below_alloc | apply pw_below_drewN | apply below_drew1 | refine below_set ?_ GE120.out | refine below_set ?_ GE121.out) | exact HB.out)));(case aF => exact (fun _ _ => trivial));(case aO => exact (by (with_reducible repeat (first | apply Kd.R_alloc | apply Kd.R_drewN | apply Kd.R_drew));exact HO_6.out));(case aS => exact (below_size (by repeat (first | (with_reducible first | exact HB.out | apply below_alloc | apply pw_below_drewN | apply below_drew1 | refine below_set ?_ GE120.out | refine below_set ?_ GE121.out) | exact HB.out))));(case aL => have := LMc9.out;omega);intro v125 w10 ho hb hg hat;rw [← Ny124.out] at ho;have n0_ := Aside0.mk (blk_grown (g:=gb120) (o:=.cells #[.int .i64 x121000_1, .int .i64 x121001_1, .int .i64 x121002_1, .int .i64 x121003_1, .int .i64 x121004_1, .int .i64 x121005_1, .int .i64 x121006_1, .int .i64 x121007_1, .int .i64 x121008_1, .int .i64 x121009_1, .int .i64 x121010_1, .int .i64 x121011_1] 32 (0,0)) (by (with_reducible repeat (first | refine blk_drewN ?_ _ | refine blk_drew ?_ | refine blk_alloc ?_ _));exact BK120.out) hg (Kd.R_ne HO_6.out BK120.out (by decide)));have n1_ := Aside0.mk (blk_grown (g:=gb121) (o:=.cells #[.int .i64 x122000_1, .int .i64 x122001_1, .int .i64 x122002_1, .int .i64 x122003_1, .int .i64 x122004_1, .int .i64 x122005_1, .int .i64 x122006_1, .int .i64 x122007_1, .int .i64 x122008_1, .int .i64 x122009_1, .int .i64 x122010_1, .int .i64 x122011_1] 32 (0,0)) (by (with_reducible repeat (first | refine blk_drewN ?_ _ | refine blk_drew ?_ | refine blk_alloc ?_ _));exact BK121.out) hg (Kd.R_ne HO_6.out BK121.out (by decide)));have n2_ := Aside0.mk (hb);have n3_ := Aside0.mk (ho);clear BK120;clear BK121;clear HB;clear HO_6;have BK120 := n0_;have BK121 := n1_;have HB := n2_;have HO126 := n3_;clear n0_ n1_ n2_ n3_;clear ho hb hg hat))
           go_roundg k2
           case measure => have := HK1.out;have := HK2.out;omega
           case rel => exact ⟨(y124),(wrap64 (x7_2 + 1)),(by first | rfl | (simp;done) | (simp [*];done)),H',⟨by have := HK1.out;have := HK2.out;omega⟩,⟨by (with_reducible repeat (first | apply Kd.R_alloc | apply Kd.R_drewN | apply Kd.R_drew));exact HO126.out⟩,⟨by (with_reducible repeat (first | refine blk_drewN ?_ _ | refine blk_drew ?_ | refine blk_alloc ?_ _));exact BK120.out⟩,⟨by (with_reducible repeat (first | refine blk_drewN ?_ _ | refine blk_drew ?_ | refine blk_alloc ?_ _));exact BK121.out⟩,⟨by repeat (first | (with_reducible first | exact HB.out | apply below_alloc | apply pw_below_drewN | apply below_drew1 | refine below_set ?_ GE120.out | refine below_set ?_ GE121.out) | exact HB.out)⟩⟩
          ·
           rw [if_neg c9] at H
           exact absurd H (by simp)
         ·
          rw [if_neg c8] at H
          exact absurd H (by simp)
        ·
         rw [if_neg c7] at H
         exact absurd H (by simp)
       ·
        rw [if_neg c6] at H
        exact absurd H (by simp)
      ·
       rw [if_neg c5] at H
       have c5b0 : decide (x7_2 < (l0.length : Int)) = false := decide_eq_false c5
       clear c5
       replace H := Option.bind_eq_some_iff.mp H
       obtain ⟨⟨t127,t128⟩,A110,H⟩ := H
       replace H : (if t128 = true then (if 0 ≤ x5_1 then (if x5_1 < 12 then (arrearsref8_Total.l0 k2 l0 (wrap64 (x5_1 + 1)) (putI x5_1 0 t127 x122000_1) (putI x5_1 1 t127 x122001_1) (putI x5_1 2 t127 x122002_1) (putI x5_1 3 t127 x122003_1) (putI x5_1 4 t127 x122004_1) (putI x5_1 5 t127 x122005_1) (putI x5_1 6 t127 x122006_1) (putI x5_1 7 t127 x122007_1) (putI x5_1 8 t127 x122008_1) (putI x5_1 9 t127 x122009_1) (putI x5_1 10 t127 x122010_1) (putI x5_1 11 t127 x122011_1)) else (none)) else (none)) else (some (0,0,0,0,0,0,0,0,0,0,0,0,false))) = some (r1,r2,r3,r4,r5,r6,r7,r8,r9,r10,r11,r12,r13) := H
       have A11 := Aside0.mk A110
       clear A110
       by_cases c12 : t128 = true
       ·
        subst c12
        have H1 : (if 0 ≤ x5_1 then (if x5_1 < 12 then (arrearsref8_Total.l0 k2 l0 (wrap64 (x5_1 + 1)) (putI x5_1 0 t127 x122000_1) (putI x5_1 1 t127 x122001_1) (putI x5_1 2 t127 x122002_1) (putI x5_1 3 t127 x122003_1) (putI x5_1 4 t127 x122004_1) (putI x5_1 5 t127 x122005_1) (putI x5_1 6 t127 x122006_1) (putI x5_1 7 t127 x122007_1) (putI x5_1 8 t127 x122008_1) (putI x5_1 9 t127 x122009_1) (putI x5_1 10 t127 x122010_1) (putI x5_1 11 t127 x122011_1)) else (none)) else (none)) = some (r1,r2,r3,r4,r5,r6,r7,r8,r9,r10,r11,r12,r13) := by rw [if_pos rfl] at H;exact H
        clear H
        have H := H1
        clear H1
        by_cases c13 : 0 ≤ x5_1
        ·
         rw [if_pos c13] at H
         have c13b0 : decide (0 ≤ x5_1) = true := decide_eq_true c13
         clear c13
         by_cases c14 : x5_1 < 12
         ·
          rw [if_pos c14] at H
          have c14b0 : decide (x5_1 < 12) = true := decide_eq_true c14
          clear c14
          have H' := Aside0.mk H
          clear H
          obtain ⟨Ao15,co15,eo15⟩ := Kd.R_slice HO_6.out
          subst eo15
          go_wp2_with (first | ((with_reducible refine gate_callee (f:=23) rfl ?_);refine goesL_ (some 32) rfl rfl Try.func23 (by kernel_rfl) rfl #[.slice Ao15 x6_2.length co15] rfl (by (try simp only [List.map_toArray,List.map_cons,List.map_nil]);first | done | rfl | (simp only [List.length_drop,List.length_take];rfl)) ?_;(with_reducible refine (arrearsref1_Sum.calls k2 _ _ x6_2 t127 true _ ?side1 ?side2 A11.out).mono ?_);(case side1 => repeat (first | exact (Kd.R_reads' HO_6.out).2.2 | (with_reducible refine Kd.C_alloc ?_ _) | (with_reducible refine Kd.C_drewN ?_ _) | (with_reducible refine Kd.C_drew ?_)));(case side2 => exact (Kd.R_reads' HO_6.out).2.1);rintro e w' ⟨rfl,⟨nd,rfl⟩⟩;refine ⟨_,rfl,?_⟩;(try (rw [drewN_self wr];generalize hq_ : World.drewN wr _ = wr;have n0_ : Aside0 (Kd.R (Kd.int .i64) 2 wr w.heap.size (fun _ => True) (.slice Ao15 x6_2.length co15) x6_2) := ⟨by rw [← hq_];exact (by (with_reducible repeat (first | apply Kd.R_alloc | apply Kd.R_drewN | apply Kd.R_drew));exact HO_6.out)⟩;have n1_ : Aside0 (wr.heap[gb120]? = some (.cells #[.int .i64 x121000_1, .int .i64 x121001_1, .int .i64 x121002_1, .int .i64 x121003_1, .int .i64 x121004_1, .int .i64 x121005_1, .int .i64 x121006_1, .int .i64 x121007_1, .int .i64 x121008_1, .int .i64 x121009_1, .int .i64 x121010_1, .int .i64 x121011_1] 32 (0,0))) := ⟨by rw [← hq_];exact (by (with_reducible repeat (first | refine blk_drewN ?_ _ | refine blk_drew ?_ | refine blk_alloc ?_ _));exact BK120.out)⟩;have n2_ : Aside0 (wr.heap[gb121]? = some (.cells #[.int .i64 x122000_1, .int .i64 x122001_1, .int .i64 x122002_1, .int .i64 x122003_1, .int .i64 x122004_1, .int .i64 x122005_1, .int .i64 x122006_1, .int .i64 x122007_1, .int .i64 x122008_1, .int .i64 x122009_1, .int .i64 x122010_1, .int .i64 x122011_1] 32 (0,0))) := ⟨by rw [← hq_];exact (by (with_reducible repeat (first | refine blk_drewN ?_ _ | refine blk_drew ?_ | refine blk_alloc ?_ _));exact BK121.out)⟩;have n3_ : Aside0 (Below w.heap.size w wr) := ⟨by rw [← hq_];exact (by repeat (first | (with_reducible first | exact HB.out | apply below_alloc | apply pw_below_drewN | apply below_drew1 | refine below_set ?_ GE120.out | refine below_set ?_ GE121.out) | exact HB.out))⟩;clear HO_6 BK120 BK121 HB hq_;have HO_6 := n0_;have BK120 := n1_;have BK121 := n2_;have HB := n3_;clear n0_ n1_ n2_ n3_));have hnb16 := NB121_120.out;have hnc16 := NB120_121.out;have p129 : 0 ≤ (x5_1 : Int) := of_decide_eq_true (by first | (with_reducible assumption) | assumption);have q129 : (x5_1 : Int) < 12 := of_decide_eq_true (by first | (with_reducible assumption) | assumption);have P129 := Aside0.mk p129;have Q129 := Aside0.mk q129;have hs129 : wr.cell? ⟨gb121,(x5_1 : Int).toNat,none⟩ = some (.int .i64 (selI [x122000_1,x122001_1,x122002_1,x122003_1,x122004_1,x122005_1,x122006_1,x122007_1,x122008_1,x122009_1,x122010_1,x122011_1] x5_1)) := (blk_cell BK121.out ((x5_1 : Int).toNat)).trans (selI_at .i64 [x122000_1,x122001_1,x122002_1,x122003_1,x122004_1,x122005_1,x122006_1,x122007_1,x122008_1,x122009_1,x122010_1,x122011_1] x5_1 p129 q129);have hfs129 := blk_frozen BK121.out ((x5_1 : Int).toNat);have t129 := eq_true (show (x5_1 : Int).toNat < 12 by omega);replace p129 := eq_true p129;replace q129 := eq_true q129))
          go_roundg k2
          case measure => have := HK1.out;have := HK2.out;omega
          case rel => exact ⟨(wrap64 (x5_1 + 1)),(x121000_1),(x121001_1),(x121002_1),(x121003_1),(x121004_1),(x121005_1),(x121006_1),(x121007_1),(x121008_1),(x121009_1),(x121010_1),(x121011_1),(putI x5_1 0 t127 x122000_1),(putI x5_1 1 t127 x122001_1),(putI x5_1 2 t127 x122002_1),(putI x5_1 3 t127 x122003_1),(putI x5_1 4 t127 x122004_1),(putI x5_1 5 t127 x122005_1),(putI x5_1 6 t127 x122006_1),(putI x5_1 7 t127 x122007_1),(putI x5_1 8 t127 x122008_1),(putI x5_1 9 t127 x122009_1),(putI x5_1 10 t127 x122010_1),(putI x5_1 11 t127 x122011_1),(by first | rfl | (simp;done) | (simp [*];done)),H',⟨by have := HK1.out;have := HK2.out;omega⟩,⟨by (with_reducible repeat (first | refine blk_drewN ?_ _ | refine blk_drew ?_ | refine blk_alloc ?_ _));refine blk_far ?_ NB120_121.out _;(with_reducible repeat (first | refine blk_drewN ?_ _ | refine blk_drew ?_ | refine blk_alloc ?_ _));exact BK120.out⟩,⟨by (with_reducible repeat (first | refine blk_drewN ?_ _ | refine blk_drew ?_ | refine blk_alloc ?_ _));refine blk_put (cs:=#[.int .i64 x122000_1, .int .i64 x122001_1, .int .i64 x122002_1, .int .i64 x122003_1, .int .i64 x122004_1, .int .i64 x122005_1, .int .i64 x122006_1, .int .i64 x122007_1, .int .i64 x122008_1, .int .i64 x122009_1, .int .i64 x122010_1, .int .i64 x122011_1]) ?_ (x5_1 : Int).toNat _ (putI_row .i64 [x122000_1,x122001_1,x122002_1,x122003_1,x122004_1,x122005_1,x122006_1,x122007_1,x122008_1,x122009_1,x122010_1,x122011_1] x5_1 t127 P129.out Q129.out);(with_reducible repeat (first | refine blk_drewN ?_ _ | refine blk_drew ?_ | refine blk_alloc ?_ _));exact BK121.out⟩,⟨by repeat (first | (with_reducible first | exact HB.out | apply below_alloc | apply pw_below_drewN | apply below_drew1 | refine below_set ?_ GE120.out | refine below_set ?_ GE121.out) | exact HB.out)⟩⟩
         ·
          rw [if_neg c14] at H
          exact absurd H (by simp)
        ·
         rw [if_neg c13] at H
         exact absurd H (by simp)
       ·
        replace c12 := Bool.eq_false_iff.mpr c12
        subst c12
        have H1 : (some (0,0,0,0,0,0,0,0,0,0,0,0,false)) = some (r1,r2,r3,r4,r5,r6,r7,r8,r9,r10,r11,r12,r13) := by rw [if_neg (show ¬ (false = true) by decide)] at H;exact H
        clear H
        have H := H1
        clear H1
        simp only [Option.some.injEq,Prod.mk.injEq] at H
        obtain ⟨rfl,rfl,rfl,rfl,rfl,rfl,rfl,rfl,rfl,rfl,rfl,rfl,rfl⟩ := H
        obtain ⟨Ao17,co17,eo17⟩ := Kd.R_slice HO_6.out
        subst eo17
        go_wp2_with (first | ((with_reducible refine gate_callee (f:=23) rfl ?_);refine goesL_ (some 32) rfl rfl Try.func23 (by kernel_rfl) rfl #[.slice Ao17 x6_2.length co17] rfl (by (try simp only [List.map_toArray,List.map_cons,List.map_nil]);first | done | rfl | (simp only [List.length_drop,List.length_take];rfl)) ?_;(with_reducible refine (arrearsref1_Sum.calls k2 _ _ x6_2 t127 false _ ?side1 ?side2 A11.out).mono ?_);(case side1 => repeat (first | exact (Kd.R_reads' HO_6.out).2.2 | (with_reducible refine Kd.C_alloc ?_ _) | (with_reducible refine Kd.C_drewN ?_ _) | (with_reducible refine Kd.C_drew ?_)));(case side2 => exact (Kd.R_reads' HO_6.out).2.1);rintro e w' ⟨rfl,⟨nd,rfl⟩⟩;refine ⟨_,rfl,?_⟩;(try (rw [drewN_self wr];generalize hq_ : World.drewN wr _ = wr;have n0_ : Aside0 (Kd.R (Kd.int .i64) 2 wr w.heap.size (fun _ => True) (.slice Ao17 x6_2.length co17) x6_2) := ⟨by rw [← hq_];exact (by (with_reducible repeat (first | apply Kd.R_alloc | apply Kd.R_drewN | apply Kd.R_drew));exact HO_6.out)⟩;have n1_ : Aside0 (wr.heap[gb120]? = some (.cells #[.int .i64 x121000_1, .int .i64 x121001_1, .int .i64 x121002_1, .int .i64 x121003_1, .int .i64 x121004_1, .int .i64 x121005_1, .int .i64 x121006_1, .int .i64 x121007_1, .int .i64 x121008_1, .int .i64 x121009_1, .int .i64 x121010_1, .int .i64 x121011_1] 32 (0,0))) := ⟨by rw [← hq_];exact (by (with_reducible repeat (first | refine blk_drewN ?_ _ | refine blk_drew ?_ | refine blk_alloc ?_ _));exact BK120.out)⟩;have n2_ : Aside0 (wr.heap[gb121]? = some (.cells #[.int .i64 x122000_1, .int .i64 x122001_1, .int .i64 x122002_1, .int .i64 x122003_1, .int .i64 x122004_1, .int .i64 x122005_1, .int .i64 x122006_1, .int .i64 x122007_1, .int .i64 x122008_1, .int .i64 x122009_1, .int .i64 x122010_1, .int .i64 x122011_1] 32 (0,0))) := ⟨by rw [← hq_];exact (by (with_reducible repeat (first | refine blk_drewN ?_ _ | refine blk_drew ?_ | refine blk_alloc ?_ _));exact BK121.out)⟩;have n3_ : Aside0 (Below w.heap.size w wr) := ⟨by rw [← hq_];exact (by repeat (first | (with_reducible first | exact HB.out | apply below_alloc | apply pw_below_drewN | apply below_drew1 | refine below_set ?_ GE120.out | refine below_set ?_ GE121.out) | exact HB.out))⟩;clear HO_6 BK120 BK121 HB hq_;have HO_6 := n0_;have BK120 := n1_;have BK121 := n2_;have HB := n3_;clear n0_ n1_ n2_ n3_));have hnb18 := NB120_121.out;have hnc18 := NB121_120.out;have hcz19_0 : wr.cell? ⟨gb120,0,none⟩ = some (.int .i64 x121000_1) := (blk_cell BK120.out 0).trans rfl;have hcz19_1 : wr.cell? ⟨gb120,1,none⟩ = some (.int .i64 x121001_1) := (blk_cell BK120.out 1).trans rfl;have hcz19_2 : wr.cell? ⟨gb120,2,none⟩ = some (.int .i64 x121002_1) := (blk_cell BK120.out 2).trans rfl;have hcz19_3 : wr.cell? ⟨gb120,3,none⟩ = some (.int .i64 x121003_1) := (blk_cell BK120.out 3).trans rfl;have hcz19_4 : wr.cell? ⟨gb120,4,none⟩ = some (.int .i64 x121004_1) := (blk_cell BK120.out 4).trans rfl;have hcz19_5 : wr.cell? ⟨gb120,5,none⟩ = some (.int .i64 x121005_1) := (blk_cell BK120.out 5).trans rfl;have hcz19_6 : wr.cell? ⟨gb120,6,none⟩ = some (.int .i64 x121006_1) := (blk_cell BK120.out 6).trans rfl;have hcz19_7 : wr.cell? ⟨gb120,7,none⟩ = some (.int .i64 x121007_1) := (blk_cell BK120.out 7).trans rfl;have hcz19_8 : wr.cell? ⟨gb120,8,none⟩ = some (.int .i64 x121008_1) := (blk_cell BK120.out 8).trans rfl;have hcz19_9 : wr.cell? ⟨gb120,9,none⟩ = some (.int .i64 x121009_1) := (blk_cell BK120.out 9).trans rfl;have hcz19_10 : wr.cell? ⟨gb120,10,none⟩ = some (.int .i64 x121010_1) := (blk_cell BK120.out 10).trans rfl;have hcz19_11 : wr.cell? ⟨gb120,11,none⟩ = some (.int .i64 x121011_1) := (blk_cell BK120.out 11).trans rfl;have hfz19_0 := blk_frozen BK120.out 0;have hfz19_1 := blk_frozen BK120.out 1;have hfz19_2 := blk_frozen BK120.out 2;have hfz19_3 := blk_frozen BK120.out 3;have hfz19_4 := blk_frozen BK120.out 4;have hfz19_5 := blk_frozen BK120.out 5;have hfz19_6 := blk_frozen BK120.out 6;have hfz19_7 := blk_frozen BK120.out 7;have hfz19_8 := blk_frozen BK120.out 8;have hfz19_9 := blk_frozen BK120.out 9;have hfz19_10 := blk_frozen BK120.out 10;have hfz19_11 := blk_frozen BK120.out 11) | ((with_reducible refine gate_store (t:=32) (p:=2) rfl ?_);refine store_event (t:=32) (p:=2) (v:=?vo_w20) (w1:=((((((((((((wr.setCell ⟨gb120,0,none⟩ (.int .i64 0)).setCell ⟨gb120,1,none⟩ (.int .i64 0)).setCell ⟨gb120,2,none⟩ (.int .i64 0)).setCell ⟨gb120,3,none⟩ (.int .i64 0)).setCell ⟨gb120,4,none⟩ (.int .i64 0)).setCell ⟨gb120,5,none⟩ (.int .i64 0)).setCell ⟨gb120,6,none⟩ (.int .i64 0)).setCell ⟨gb120,7,none⟩ (.int .i64 0)).setCell ⟨gb120,8,none⟩ (.int .i64 0)).setCell ⟨gb120,9,none⟩ (.int .i64 0)).setCell ⟨gb120,10,none⟩ (.int .i64 0)).setCell ⟨gb120,11,none⟩ (.int .i64 0))) ?hg ?ho ?hn ?hr ?_;(case ho => rfl);(case hg => rfl);(case hn => rfl);(case hr => first | (go_simp;done) | (go_simp;rfl));intro w20 hw;have n0_ : Aside0 (Kd.R (Kd.int .i64) 2 w20 w.heap.size (fun _ => True) (.slice Ao17 x6_2.length co17) x6_2) := ⟨(by rw [hw];exact (by (with_reducible repeat (first | apply Kd.R_alloc | apply Kd.R_drewN | apply Kd.R_drew));exact Kd.R_mono (Kd.R_far (p:=⟨gb120,11,none⟩) (Kd.R_far (p:=⟨gb120,10,none⟩) (Kd.R_far (p:=⟨gb120,9,none⟩) (Kd.R_far (p:=⟨gb120,8,none⟩) (Kd.R_far (p:=⟨gb120,7,none⟩) (Kd.R_far (p:=⟨gb120,6,none⟩) (Kd.R_far (p:=⟨gb120,5,none⟩) (Kd.R_far (p:=⟨gb120,4,none⟩) (Kd.R_far (p:=⟨gb120,3,none⟩) (Kd.R_far (p:=⟨gb120,2,none⟩) (Kd.R_far (p:=⟨gb120,1,none⟩) (Kd.R_far (p:=⟨gb120,0,none⟩) (Kd.R_types HO_6.out BK120.out (by decide)) (fun _ hk => hk.2) (.int .i64 0)) (fun _ hk => hk.2) (.int .i64 0)) (fun _ hk => hk.2) (.int .i64 0)) (fun _ hk => hk.2) (.int .i64 0)) (fun _ hk => hk.2) (.int .i64 0)) (fun _ hk => hk.2) (.int .i64 0)) (fun _ hk => hk.2) (.int .i64 0)) (fun _ hk => hk.2) (.int .i64 0)) (fun _ hk => hk.2) (.int .i64 0)) (fun _ hk => hk.2) (.int .i64 0)) (fun _ hk => hk.2) (.int .i64 0)) (fun _ hk => hk.2) (.int .i64 0)) (fun _ hk => trivial)))⟩;have n1_ : Aside0 (w20.heap[gb120]? = some (.cells #[.int .i64 0, .int .i64 0, .int .i64 0, .int .i64 0, .int .i64 0, .int .i64 0, .int .i64 0, .int .i64 0, .int .i64 0, .int .i64 0, .int .i64 0, .int .i64 0] 32 (0,0))) := ⟨(by rw [hw];exact (by (with_reducible repeat (first | refine blk_drewN ?_ _ | refine blk_drew ?_ | refine blk_alloc ?_ _));refine blk_put (cs:=#[.int .i64 0, .int .i64 0, .int .i64 0, .int .i64 0, .int .i64 0, .int .i64 0, .int .i64 0, .int .i64 0, .int .i64 0, .int .i64 0, .int .i64 0, .int .i64 x121011_1]) ?_ 11 _ rfl;(with_reducible repeat (first | refine blk_drewN ?_ _ | refine blk_drew ?_ | refine blk_alloc ?_ _));refine blk_put (cs:=#[.int .i64 0, .int .i64 0, .int .i64 0, .int .i64 0, .int .i64 0, .int .i64 0, .int .i64 0, .int .i64 0, .int .i64 0, .int .i64 0, .int .i64 x121010_1, .int .i64 x121011_1]) ?_ 10 _ rfl;(with_reducible repeat (first | refine blk_drewN ?_ _ | refine blk_drew ?_ | refine blk_alloc ?_ _));refine blk_put (cs:=#[.int .i64 0, .int .i64 0, .int .i64 0, .int .i64 0, .int .i64 0, .int .i64 0, .int .i64 0, .int .i64 0, .int .i64 0, .int .i64 x121009_1, .int .i64 x121010_1, .int .i64 x121011_1]) ?_ 9 _ rfl;(with_reducible repeat (first | refine blk_drewN ?_ _ | refine blk_drew ?_ | refine blk_alloc ?_ _));refine blk_put (cs:=#[.int .i64 0, .int .i64 0, .int .i64 0, .int .i64 0, .int .i64 0, .int .i64 0, .int .i64 0, .int .i64 0, .int .i64 x121008_1, .int .i64 x121009_1, .int .i64 x121010_1, .int .i64 x121011_1]) ?_ 8 _ rfl;(with_reducible repeat (first | refine blk_drewN ?_ _ | refine blk_drew ?_ | refine blk_alloc ?_ _));refine blk_put (cs:=#[.int .i64 0, .int .i64 0, .int .i64 0, .int .i64 0, .int .i64 0, .int .i64 0, .int .i64 0, .int .i64 x121007_1, .int .i64 x121008_1, .int .i64 x121009_1, .int .i64 x121010_1, .int .i64 x121011_1]) ?_ 7 _ rfl;(with_reducible repeat (first | refine blk_drewN ?_ _ | refine blk_drew ?_ | refine blk_alloc ?_ _));refine blk_put (cs:=#[.int .i64 0, .int .i64 0, .int .i64 0, .int .i64 0, .int .i64 0, .int .i64 0, .int .i64 x121006_1, .int .i64 x121007_1, .int .i64 x121008_1, .int .i64 x121009_1, .int .i64 x121010_1, .int .i64 x121011_1]) ?_ 6 _ rfl;(with_reducible repeat (first | refine blk_drewN ?_ _ | refine blk_drew ?_ | refine blk_alloc ?_ _));refine blk_put (cs:=#[.int .i64 0, .int .i64 0, .int .i64 0, .int .i64 0, .int .i64 0, .int .i64 x121005_1, .int .i64 x121006_1, .int .i64 x121007_1, .int .i64 x121008_1, .int .i64 x121009_1, .int .i64 x121010_1, .int .i64 x121011_1]) ?_ 5 _ rfl;(with_reducible repeat (first | refine blk_drewN ?_ _ | refine blk_drew ?_ | refine blk_alloc ?_ _));refine blk_put (cs:=#[.int .i64 0, .int .i64 0, .int .i64 0, .int .i64 0, .int .i64 x121004_1, .int .i64 x121005_1, .int .i64 x121006_1, .int .i64 x121007_1, .int .i64 x121008_1, .int .i64 x121009_1, .int .i64 x121010_1, .int .i64 x121011_1]) ?_ 4 _ rfl;(with_reducible repeat (first | refine blk_drewN ?_ _ | refine blk_drew ?_ | refine blk_alloc ?_ _));refine blk_put (cs:=#[.int .i64 0, .int .i64 0, .int .i64 0, .int .i64 x121003_1, .int .i64 x121004_1, .int .i64 x121005_1, .int .i64 x121006_1, .int .i64 x121007_1, .int .i64 x121008_1, .int .i64 x121009_1, .int .i64 x121010_1, .int .i64 x121011_1]) ?_ 3 _ rfl;(with_reducible repeat (first | refine blk_drewN ?_ _ | refine blk_drew ?_ | refine blk_alloc ?_ _));refine blk_put (cs:=#[.int .i64 0, .int .i64 0, .int .i64 x121002_1, .int .i64 x121003_1, .int .i64 x121004_1, .int .i64 x121005_1, .int .i64 x121006_1, .int .i64 x121007_1, .int .i64 x121008_1, .int .i64 x121009_1, .int .i64 x121010_1, .int .i64 x121011_1]) ?_ 2 _ rfl;(with_reducible repeat (first | refine blk_drewN ?_ _ | refine blk_drew ?_ | refine blk_alloc ?_ _));refine blk_put (cs:=#[.int .i64 0, .int .i64 x121001_1, .int .i64 x121002_1, .int .i64 x121003_1, .int .i64 x121004_1, .int .i64 x121005_1, .int .i64 x121006_1, .int .i64 x121007_1, .int .i64 x121008_1, .int .i64 x121009_1, .int .i64 x121010_1, .int .i64 x121011_1]) ?_ 1 _ rfl;(with_reducible repeat (first | refine blk_drewN ?_ _ | refine blk_drew ?_ | refine blk_alloc ?_ _));refine blk_put (cs:=#[.int .i64 x121000_1, .int .i64 x121001_1, .int .i64 x121002_1, .int .i64 x121003_1, .int .i64 x121004_1, .int .i64 x121005_1, .int .i64 x121006_1, .int .i64 x121007_1, .int .i64 x121008_1, .int .i64 x121009_1, .int .i64 x121010_1, .int .i64 x121011_1]) ?_ 0 _ rfl;(with_reducible repeat (first | refine blk_drewN ?_ _ | refine blk_drew ?_ | refine blk_alloc ?_ _));exact BK120.out))⟩;have n2_ : Aside0 (w20.heap[gb121]? = some (.cells #[.int .i64 x122000_1, .int .i64 x122001_1, .int .i64 x122002_1, .int .i64 x122003_1, .int .i64 x122004_1, .int .i64 x122005_1, .int .i64 x122006_1, .int .i64 x122007_1, .int .i64 x122008_1, .int .i64 x122009_1, .int .i64 x122010_1, .int .i64 x122011_1] 32 (0,0))) := ⟨(by rw [hw];exact (by (with_reducible repeat (first | refine blk_drewN ?_ _ | refine blk_drew ?_ | refine blk_alloc ?_ _));refine blk_far ?_ NB121_120.out _;(with_reducible repeat (first | refine blk_drewN ?_ _ | refine blk_drew ?_ | refine blk_alloc ?_ _));refine blk_far ?_ NB121_120.out _;(with_reducible repeat (first | refine blk_drewN ?_ _ | refine blk_drew ?_ | refine blk_alloc ?_ _));refine blk_far ?_ NB121_120.out _;(with_reducible repeat (first | refine blk_drewN ?_ _ | refine blk_drew ?_ | refine blk_alloc ?_ _));refine blk_far ?_ NB121_120.out _;(with_reducible repeat (first | refine blk_drewN ?_ _ | refine blk_drew ?_ | refine blk_alloc ?_ _));refine blk_far ?_ NB121_120.out _;(with_reducible repeat (first | refine blk_drewN ?_ _ | refine blk_drew ?_ | refine blk_alloc ?_ _));refine blk_far ?_ NB121_120.out _;(with_reducible repeat (first | refine blk_drewN ?_ _ | refine blk_drew ?_ | refine blk_alloc ?_ _));refine blk_far ?_ NB121_120.out _;(with_reducible repeat (first | refine blk_drewN ?_ _ | refine blk_drew ?_ | refine blk_alloc ?_ _));refine blk_far ?_ NB121_120.out _;(with_reducible repeat (first | refine blk_drewN ?_ _ | refine blk_drew ?_ | refine blk_alloc ?_ _));refine blk_far ?_ NB121_120.out _;(with_reducible repeat (first | refine blk_drewN ?_ _ | refine blk_drew ?_ | refine blk_alloc ?_ _));refine blk_far ?_ NB121_120.out _;(with_reducible repeat (first | refine blk_drewN ?_ _ | refine blk_drew ?_ | refine blk_alloc ?_ _));refine blk_far ?_ NB121_120.out _;(with_reducible repeat (first | refine blk_drewN ?_ _ | refine blk_drew ?_ | refine blk_alloc ?_ _));refine blk_far ?_ NB121_120.out _;(with_reducible repeat (first | refine blk_drewN ?_ _ | refine blk_drew ?_ | refine blk_alloc ?_ _));exact BK121.out))⟩;have n3_ : Aside0 (Below w.heap.size w w20) := ⟨(by rw [hw];exact (by repeat (first | (with_reducible first | exact HB.out | apply below_alloc | apply pw_below_drewN | apply below_drew1 | refine below_set ?_ GE120.out | refine below_set ?_ GE121.out) | exact HB.out)))⟩;clear hw;clear HO_6;clear BK120;clear BK121;clear HB;have HO_6 := n0_;have BK120 := n1_;have BK121 := n2_;have HB := n3_;clear n0_ n1_ n2_ n3_))
        refine bodyPost_ret (results_ct rfl _ _ gb120 32 #[.int .i64 0, .int .i64 0, .int .i64 0, .int .i64 0, .int .i64 0, .int .i64 0, .int .i64 0, .int .i64 0, .int .i64 0, .int .i64 0, .int .i64 0, .int .i64 0] (0,0) _ rfl (by (with_reducible repeat (first | refine blk_drewN ?_ _ | refine blk_drew ?_ | refine blk_alloc ?_ _));exact BK120.out) Try.underlying32 rfl (by kernel_rfl)) rfl ?_
        exact ⟨by first | rfl | (simp [errW_none,errW_some] <;> rfl) | (simp [*,errW_none,errW_some] <;> rfl),by repeat (first | (with_reducible first | exact HB.out | apply below_alloc | apply pw_below_drewN | apply below_drew1 | refine below_set ?_ GE120.out | refine below_set ?_ GE121.out) | exact HB.out)⟩
   ·
    rw [if_neg c4] at H
    have c4b0 : decide (x5_1 < 12) = false := decide_eq_false c4
    clear c4
    simp only [Option.some.injEq,Prod.mk.injEq] at H
    obtain ⟨rfl,rfl,rfl,rfl,rfl,rfl,rfl,rfl,rfl,rfl,rfl,rfl,rfl⟩ := H
    have hnb21 := NB121_120.out
    have hnc21 := NB120_121.out
    have hcz22_0 : wr.cell? ⟨gb121,0,none⟩ = some (.int .i64 x122000_1) := (blk_cell BK121.out 0).trans rfl
    have hcz22_1 : wr.cell? ⟨gb121,1,none⟩ = some (.int .i64 x122001_1) := (blk_cell BK121.out 1).trans rfl
    have hcz22_2 : wr.cell? ⟨gb121,2,none⟩ = some (.int .i64 x122002_1) := (blk_cell BK121.out 2).trans rfl
    have hcz22_3 : wr.cell? ⟨gb121,3,none⟩ = some (.int .i64 x122003_1) := (blk_cell BK121.out 3).trans rfl
    have hcz22_4 : wr.cell? ⟨gb121,4,none⟩ = some (.int .i64 x122004_1) := (blk_cell BK121.out 4).trans rfl
    have hcz22_5 : wr.cell? ⟨gb121,5,none⟩ = some (.int .i64 x122005_1) := (blk_cell BK121.out 5).trans rfl
    have hcz22_6 : wr.cell? ⟨gb121,6,none⟩ = some (.int .i64 x122006_1) := (blk_cell BK121.out 6).trans rfl
    have hcz22_7 : wr.cell? ⟨gb121,7,none⟩ = some (.int .i64 x122007_1) := (blk_cell BK121.out 7).trans rfl
    have hcz22_8 : wr.cell? ⟨gb121,8,none⟩ = some (.int .i64 x122008_1) := (blk_cell BK121.out 8).trans rfl
    have hcz22_9 : wr.cell? ⟨gb121,9,none⟩ = some (.int .i64 x122009_1) := (blk_cell BK121.out 9).trans rfl
    have hcz22_10 : wr.cell? ⟨gb121,10,none⟩ = some (.int .i64 x122010_1) := (blk_cell BK121.out 10).trans rfl
    have hcz22_11 : wr.cell? ⟨gb121,11,none⟩ = some (.int .i64 x122011_1) := (blk_cell BK121.out 11).trans rfl
    have hfz22_0 := blk_frozen BK121.out 0
    have hfz22_1 := blk_frozen BK121.out 1
    have hfz22_2 := blk_frozen BK121.out 2
    have hfz22_3 := blk_frozen BK121.out 3
    have hfz22_4 := blk_frozen BK121.out 4
    have hfz22_5 := blk_frozen BK121.out 5
    have hfz22_6 := blk_frozen BK121.out 6
    have hfz22_7 := blk_frozen BK121.out 7
    have hfz22_8 := blk_frozen BK121.out 8
    have hfz22_9 := blk_frozen BK121.out 9
    have hfz22_10 := blk_frozen BK121.out 10
    have hfz22_11 := blk_frozen BK121.out 11
    have hcz23_0 : wr.cell? ⟨gb120,0,none⟩ = some (.int .i64 x121000_1) := (blk_cell BK120.out 0).trans rfl
    have hcz23_1 : wr.cell? ⟨gb120,1,none⟩ = some (.int .i64 x121001_1) := (blk_cell BK120.out 1).trans rfl
    have hcz23_2 : wr.cell? ⟨gb120,2,none⟩ = some (.int .i64 x121002_1) := (blk_cell BK120.out 2).trans rfl
    have hcz23_3 : wr.cell? ⟨gb120,3,none⟩ = some (.int .i64 x121003_1) := (blk_cell BK120.out 3).trans rfl
    have hcz23_4 : wr.cell? ⟨gb120,4,none⟩ = some (.int .i64 x121004_1) := (blk_cell BK120.out 4).trans rfl
    have hcz23_5 : wr.cell? ⟨gb120,5,none⟩ = some (.int .i64 x121005_1) := (blk_cell BK120.out 5).trans rfl
    have hcz23_6 : wr.cell? ⟨gb120,6,none⟩ = some (.int .i64 x121006_1) := (blk_cell BK120.out 6).trans rfl
    have hcz23_7 : wr.cell? ⟨gb120,7,none⟩ = some (.int .i64 x121007_1) := (blk_cell BK120.out 7).trans rfl
    have hcz23_8 : wr.cell? ⟨gb120,8,none⟩ = some (.int .i64 x121008_1) := (blk_cell BK120.out 8).trans rfl
    have hcz23_9 : wr.cell? ⟨gb120,9,none⟩ = some (.int .i64 x121009_1) := (blk_cell BK120.out 9).trans rfl
    have hcz23_10 : wr.cell? ⟨gb120,10,none⟩ = some (.int .i64 x121010_1) := (blk_cell BK120.out 10).trans rfl
    have hcz23_11 : wr.cell? ⟨gb120,11,none⟩ = some (.int .i64 x121011_1) := (blk_cell BK120.out 11).trans rfl
    have hfz23_0 := blk_frozen BK120.out 0
    have hfz23_1 := blk_frozen BK120.out 1
    have hfz23_2 := blk_frozen BK120.out 2
    have hfz23_3 := blk_frozen BK120.out 3
    have hfz23_4 := blk_frozen BK120.out 4
    have hfz23_5 := blk_frozen BK120.out 5
    have hfz23_6 := blk_frozen BK120.out 6
    have hfz23_7 := blk_frozen BK120.out 7
    have hfz23_8 := blk_frozen BK120.out 8
    have hfz23_9 := blk_frozen BK120.out 9
    have hfz23_10 := blk_frozen BK120.out 10
    have hfz23_11 := blk_frozen BK120.out 11
    go_wp2_with (first | ((with_reducible refine gate_store (t:=32) (p:=2) rfl ?_);refine store_event (t:=32) (p:=2) (v:=?vo_w24) (w1:=((((((((((((wr.setCell ⟨gb120,0,none⟩ (.int .i64 x122000_1)).setCell ⟨gb120,1,none⟩ (.int .i64 x122001_1)).setCell ⟨gb120,2,none⟩ (.int .i64 x122002_1)).setCell ⟨gb120,3,none⟩ (.int .i64 x122003_1)).setCell ⟨gb120,4,none⟩ (.int .i64 x122004_1)).setCell ⟨gb120,5,none⟩ (.int .i64 x122005_1)).setCell ⟨gb120,6,none⟩ (.int .i64 x122006_1)).setCell ⟨gb120,7,none⟩ (.int .i64 x122007_1)).setCell ⟨gb120,8,none⟩ (.int .i64 x122008_1)).setCell ⟨gb120,9,none⟩ (.int .i64 x122009_1)).setCell ⟨gb120,10,none⟩ (.int .i64 x122010_1)).setCell ⟨gb120,11,none⟩ (.int .i64 x122011_1))) ?hg ?ho ?hn ?hr ?_;(case ho => rfl);(case hg => rfl);(case hn => rfl);(case hr => first | (go_simp;done) | (go_simp;rfl));intro w24 hw;have n0_ : Aside0 (w24.heap[gb120]? = some (.cells #[.int .i64 x122000_1, .int .i64 x122001_1, .int .i64 x122002_1, .int .i64 x122003_1, .int .i64 x122004_1, .int .i64 x122005_1, .int .i64 x122006_1, .int .i64 x122007_1, .int .i64 x122008_1, .int .i64 x122009_1, .int .i64 x122010_1, .int .i64 x122011_1] 32 (0,0))) := ⟨(by rw [hw];exact (by (with_reducible repeat (first | refine blk_drewN ?_ _ | refine blk_drew ?_ | refine blk_alloc ?_ _));refine blk_put (cs:=#[.int .i64 x122000_1, .int .i64 x122001_1, .int .i64 x122002_1, .int .i64 x122003_1, .int .i64 x122004_1, .int .i64 x122005_1, .int .i64 x122006_1, .int .i64 x122007_1, .int .i64 x122008_1, .int .i64 x122009_1, .int .i64 x122010_1, .int .i64 x121011_1]) ?_ 11 _ rfl;(with_reducible repeat (first | refine blk_drewN ?_ _ | refine blk_drew ?_ | refine blk_alloc ?_ _));refine blk_put (cs:=#[.int .i64 x122000_1, .int .i64 x122001_1, .int .i64 x122002_1, .int .i64 x122003_1, .int .i64 x122004_1, .int .i64 x122005_1, .int .i64 x122006_1, .int .i64 x122007_1, .int .i64 x122008_1, .int .i64 x122009_1, .int .i64 x121010_1, .int .i64 x121011_1]) ?_ 10 _ rfl;(with_reducible repeat (first | refine blk_drewN ?_ _ | refine blk_drew ?_ | refine blk_alloc ?_ _));refine blk_put (cs:=#[.int .i64 x122000_1, .int .i64 x122001_1, .int .i64 x122002_1, .int .i64 x122003_1, .int .i64 x122004_1, .int .i64 x122005_1, .int .i64 x122006_1, .int .i64 x122007_1, .int .i64 x122008_1, .int .i64 x121009_1, .int .i64 x121010_1, .int .i64 x121011_1]) ?_ 9 _ rfl;(with_reducible repeat (first | refine blk_drewN ?_ _ | refine blk_drew ?_ | refine blk_alloc ?_ _));refine blk_put (cs:=#[.int .i64 x122000_1, .int .i64 x122001_1, .int .i64 x122002_1, .int .i64 x122003_1, .int .i64 x122004_1, .int .i64 x122005_1, .int .i64 x122006_1, .int .i64 x122007_1, .int .i64 x121008_1, .int .i64 x121009_1, .int .i64 x121010_1, .int .i64 x121011_1]) ?_ 8 _ rfl;(with_reducible repeat (first | refine blk_drewN ?_ _ | refine blk_drew ?_ | refine blk_alloc ?_ _));refine blk_put (cs:=#[.int .i64 x122000_1, .int .i64 x122001_1, .int .i64 x122002_1, .int .i64 x122003_1, .int .i64 x122004_1, .int .i64 x122005_1, .int .i64 x122006_1, .int .i64 x121007_1, .int .i64 x121008_1, .int .i64 x121009_1, .int .i64 x121010_1, .int .i64 x121011_1]) ?_ 7 _ rfl;(with_reducible repeat (first | refine blk_drewN ?_ _ | refine blk_drew ?_ | refine blk_alloc ?_ _));refine blk_put (cs:=#[.int .i64 x122000_1, .int .i64 x122001_1, .int .i64 x122002_1, .int .i64 x122003_1, .int .i64 x122004_1, .int .i64 x122005_1, .int .i64 x121006_1, .int .i64 x121007_1, .int .i64 x121008_1, .int .i64 x121009_1, .int .i64 x121010_1, .int .i64 x121011_1]) ?_ 6 _ rfl;(with_reducible repeat (first | refine blk_drewN ?_ _ | refine blk_drew ?_ | refine blk_alloc ?_ _));refine blk_put (cs:=#[.int .i64 x122000_1, .int .i64 x122001_1, .int .i64 x122002_1, .int .i64 x122003_1, .int .i64 x122004_1, .int .i64 x121005_1, .int .i64 x121006_1, .int .i64 x121007_1, .int .i64 x121008_1, .int .i64 x121009_1, .int .i64 x121010_1, .int .i64 x121011_1]) ?_ 5 _ rfl;(with_reducible repeat (first | refine blk_drewN ?_ _ | refine blk_drew ?_ | refine blk_alloc ?_ _));refine blk_put (cs:=#[.int .i64 x122000_1, .int .i64 x122001_1, .int .i64 x122002_1, .int .i64 x122003_1, .int .i64 x121004_1, .int .i64 x121005_1, .int .i64 x121006_1, .int .i64 x121007_1, .int .i64 x121008_1, .int .i64 x121009_1, .int .i64 x121010_1, .int .i64 x121011_1]) ?_ 4 _ rfl;(with_reducible repeat (first | refine blk_drewN ?_ _ | refine blk_drew ?_ | refine blk_alloc ?_ _));refine blk_put (cs:=#[.int .i64 x122000_1, .int .i64 x122001_1, .int .i64 x122002_1, .int .i64 x121003_1, .int .i64 x121004_1, .int .i64 x121005_1, .int .i64 x121006_1, .int .i64 x121007_1, .int .i64 x121008_1, .int .i64 x121009_1, .int .i64 x121010_1, .int .i64 x121011_1]) ?_ 3 _ rfl;(with_reducible repeat (first | refine blk_drewN ?_ _ | refine blk_drew ?_ | refine blk_alloc ?_ _));refine blk_put (cs:=#[.int .i64 x122000_1, .int .i64 x122001_1, .int .i64 x121002_1, .int .i64 x121003_1, .int .i64 x121004_1, .int .i64 x121005_1, .int .i64 x121006_1, .int .i64 x121007_1, .int .i64 x121008_1, .int .i64 x121009_1, .int .i64 x121010_1, .int .i64 x121011_1]) ?_ 2 _ rfl;(with_reducible repeat (first | refine blk_drewN ?_ _ | refine blk_drew ?_ | refine blk_alloc ?_ _));refine blk_put (cs:=#[.int .i64 x122000_1, .int .i64 x121001_1, .int .i64 x121002_1, .int .i64 x121003_1, .int .i64 x121004_1, .int .i64 x121005_1, .int .i64 x121006_1, .int .i64 x121007_1, .int .i64 x121008_1, .int .i64 x121009_1, .int .i64 x121010_1, .int .i64 x121011_1]) ?_ 1 _ rfl;(with_reducible repeat (first | refine blk_drewN ?_ _ | refine blk_drew ?_ | refine blk_alloc ?_ _));refine blk_put (cs:=#[.int .i64 x121000_1, .int .i64 x121001_1, .int .i64 x121002_1, .int .i64 x121003_1, .int .i64 x121004_1, .int .i64 x121005_1, .int .i64 x121006_1, .int .i64 x121007_1, .int .i64 x121008_1, .int .i64 x121009_1, .int .i64 x121010_1, .int .i64 x121011_1]) ?_ 0 _ rfl;(with_reducible repeat (first | refine blk_drewN ?_ _ | refine blk_drew ?_ | refine blk_alloc ?_ _));exact BK120.out))⟩;have n1_ : Aside0 (w24.heap[gb121]? = some (.cells #[.int .i64 x122000_1, .int .i64 x122001_1, .int .i64 x122002_1, .int .i64 x122003_1, .int .i64 x122004_1, .int .i64 x122005_1, .int .i64 x122006_1, .int .i64 x122007_1, .int .i64 x122008_1, .int .i64 x122009_1, .int .i64 x122010_1, .int .i64 x122011_1] 32 (0,0))) := ⟨(by rw [hw];exact (by (with_reducible repeat (first | refine blk_drewN ?_ _ | refine blk_drew ?_ | refine blk_alloc ?_ _));refine blk_far ?_ NB121_120.out _;(with_reducible repeat (first | refine blk_drewN ?_ _ | refine blk_drew ?_ | refine blk_alloc ?_ _));refine blk_far ?_ NB121_120.out _;(with_reducible repeat (first | refine blk_drewN ?_ _ | refine blk_drew ?_ | refine blk_alloc ?_ _));refine blk_far ?_ NB121_120.out _;(with_reducible repeat (first | refine blk_drewN ?_ _ | refine blk_drew ?_ | refine blk_alloc ?_ _));refine blk_far ?_ NB121_120.out _;(with_reducible repeat (first | refine blk_drewN ?_ _ | refine blk_drew ?_ | refine blk_alloc ?_ _));refine blk_far ?_ NB121_120.out _;(with_reducible repeat (first | refine blk_drewN ?_ _ | refine blk_drew ?_ | refine blk_alloc ?_ _));refine blk_far ?_ NB121_120.out _;(with_reducible repeat (first | refine blk_drewN ?_ _ | refine blk_drew ?_ | refine blk_alloc ?_ _));refine blk_far ?_ NB121_120.out _;(with_reducible repeat (first | refine blk_drewN ?_ _ | refine blk_drew ?_ | refine blk_alloc ?_ _));refine blk_far ?_ NB121_120.out _;(with_reducible repeat (first | refine blk_drewN ?_ _ | refine blk_drew ?_ | refine blk_alloc ?_ _));refine blk_far ?_ NB121_120.out _;(with_reducible repeat (first | refine blk_drewN ?_ _ | refine blk_drew ?_ | refine blk_alloc ?_ _));refine blk_far ?_ NB121_120.out _;(with_reducible repeat (first | refine blk_drewN ?_ _ | refine blk_drew ?_ | refine blk_alloc ?_ _));refine blk_far ?_ NB121_120.out _;(with_reducible repeat (first | refine blk_drewN ?_ _ | refine blk_drew ?_ | refine blk_alloc ?_ _));refine blk_far ?_ NB121_120.out _;(with_reducible repeat (first | refine blk_drewN ?_ _ | refine blk_drew ?_ | refine blk_alloc ?_ _));exact BK121.out))⟩;have n2_ : Aside0 (Below w.heap.size w w24) := ⟨(by rw [hw];exact (by repeat (first | (with_reducible first | exact HB.out | apply below_alloc | apply pw_below_drewN | apply below_drew1 | refine below_set ?_ GE120.out | refine below_set ?_ GE121.out) | exact HB.out)))⟩;clear hw;clear BK120;clear BK121;clear HB;have BK120 := n0_;have BK121 := n1_;have HB := n2_;clear n0_ n1_ n2_))
    refine bodyPost_ret (results_ct rfl _ _ gb120 32 #[.int .i64 x122000_1, .int .i64 x122001_1, .int .i64 x122002_1, .int .i64 x122003_1, .int .i64 x122004_1, .int .i64 x122005_1, .int .i64 x122006_1, .int .i64 x122007_1, .int .i64 x122008_1, .int .i64 x122009_1, .int .i64 x122010_1, .int .i64 x122011_1] (0,0) _ rfl (by (with_reducible repeat (first | refine blk_drewN ?_ _ | refine blk_drew ?_ | refine blk_alloc ?_ _));exact BK120.out) Try.underlying32 rfl (by kernel_rfl)) rfl ?_
    exact ⟨by first | rfl | (simp [errW_none,errW_some] <;> rfl) | (simp [*,errW_none,errW_some] <;> rfl),by repeat (first | (with_reducible first | exact HB.out | apply below_alloc | apply pw_below_drewN | apply below_drew1 | refine below_set ?_ GE120.out | refine below_set ?_ GE121.out) | exact HB.out)⟩

/-! ### arrearslaw8_same: function 16 -/
def arrearslaw8_same.l0 : Nat → Int → Int → Int → Int → Int → Int → Int → Int → Int → Int → Int → Int → Int → Int → Int → Int → Int → Int → Int → Int → Int → Int → Int → Int → Int → Option (Bool)
 | 0,_,_,_,_,_,_,_,_,_,_,_,_,_,_,_,_,_,_,_,_,_,_,_,_,_ => none
 | k + 1,x5,x131000,x131001,x131002,x131003,x131004,x131005,x131006,x131007,x131008,x131009,x131010,x131011,x132000,x132001,x132002,x132003,x132004,x132005,x132006,x132007,x132008,x132009,x132010,x132011 => if x5 < 12 then (if 0 ≤ x5 then (if (selI [x131000,x131001,x131002,x131003,x131004,x131005,x131006,x131007,x131008,x131009,x131010,x131011] x5) = (selI [x132000,x132001,x132002,x132003,x132004,x132005,x132006,x132007,x132008,x132009,x132010,x132011] x5) then (arrearslaw8_same.l0 k (wrap64 (x5 + 1)) x131000 x131001 x131002 x131003 x131004 x131005 x131006 x131007 x131008 x131009 x131010 x131011 x132000 x132001 x132002 x132003 x132004 x132005 x132006 x132007 x132008 x132009 x132010 x132011) else (some false)) else (none)) else (some true)
def arrearslaw8_same.f (k : Nat) (a0_0 : Int) (a0_1 : Int) (a0_2 : Int) (a0_3 : Int) (a0_4 : Int) (a0_5 : Int) (a0_6 : Int) (a0_7 : Int) (a0_8 : Int) (a0_9 : Int) (a0_10 : Int) (a0_11 : Int) (a1_0 : Int) (a1_1 : Int) (a1_2 : Int) (a1_3 : Int) (a1_4 : Int) (a1_5 : Int) (a1_6 : Int) (a1_7 : Int) (a1_8 : Int) (a1_9 : Int) (a1_10 : Int) (a1_11 : Int) : Option (Bool) := arrearslaw8_same.l0 k 0 a0_0 a0_1 a0_2 a0_3 a0_4 a0_5 a0_6 a0_7 a0_8 a0_9 a0_10 a0_11 a1_0 a1_1 a1_2 a1_3 a1_4 a1_5 a1_6 a1_7 a1_8 a1_9 a1_10 a1_11
theorem arrearslaw8_same.mono_l : ∀ k,(∀ y0 y1 y2 y3 y4 y5 y6 y7 y8 y9 y10 y11 y12 y13 y14 y15 y16 y17 y18 y19 y20 y21 y22 y23 y24,LeO (arrearslaw8_same.l0 k y0 y1 y2 y3 y4 y5 y6 y7 y8 y9 y10 y11 y12 y13 y14 y15 y16 y17 y18 y19 y20 y21 y22 y23 y24) (arrearslaw8_same.l0 (k + 1) y0 y1 y2 y3 y4 y5 y6 y7 y8 y9 y10 y11 y12 y13 y14 y15 y16 y17 y18 y19 y20 y21 y22 y23 y24))
 | 0 => fun _ _ _ _ _ _ _ _ _ _ _ _ _ _ _ _ _ _ _ _ _ _ _ _ _ r h => by simp [arrearslaw8_same.l0] at h
 | k + 1 => by
  have ih0 := arrearslaw8_same.mono_l k
  ·
   intro y0 y1 y2 y3 y4 y5 y6 y7 y8 y9 y10 y11 y12 y13 y14 y15 y16 y17 y18 y19 y20 y21 y22 y23 y24
   unfold arrearslaw8_same.l0
   repeat' first
   | (with_reducible exact ih0 _ _ _ _ _ _ _ _ _ _ _ _ _ _ _ _ _ _ _ _ _ _ _ _ _)
   | (with_reducible exact LeO.refl _)
   | (with_reducible exact LeO.none _)
   | (with_reducible refine LeO.ite ?_ ?_)
   | (with_reducible refine LeO.bind ?_ (fun _ => ?_))
   | exact ih0 _ _ _ _ _ _ _ _ _ _ _ _ _ _ _ _ _ _ _ _ _ _ _ _ _
   | exact LeO.none _
   | refine LeO.ite ?_ ?_
   | refine LeO.bind ?_ (fun _ => ?_)
theorem arrearslaw8_same.mono : ∀ a0 a1 a2 a3 a4 a5 a6 a7 a8 a9 a10 a11 a12 a13 a14 a15 a16 a17 a18 a19 a20 a21 a22 a23 k,LeO (arrearslaw8_same.f k a0 a1 a2 a3 a4 a5 a6 a7 a8 a9 a10 a11 a12 a13 a14 a15 a16 a17 a18 a19 a20 a21 a22 a23) (arrearslaw8_same.f (k + 1) a0 a1 a2 a3 a4 a5 a6 a7 a8 a9 a10 a11 a12 a13 a14 a15 a16 a17 a18 a19 a20 a21 a22 a23) := by
 intro a0 a1 a2 a3 a4 a5 a6 a7 a8 a9 a10 a11 a12 a13 a14 a15 a16 a17 a18 a19 a20 a21 a22 a23 k
 have ih0 := arrearslaw8_same.mono_l k
 unfold arrearslaw8_same.f
 repeat' first
   | (with_reducible exact ih0 _ _ _ _ _ _ _ _ _ _ _ _ _ _ _ _ _ _ _ _ _ _ _ _ _)
   | (with_reducible exact LeO.refl _)
   | (with_reducible exact LeO.none _)
   | (with_reducible refine LeO.ite ?_ ?_)
   | (with_reducible refine LeO.bind ?_ (fun _ => ?_))
   | exact ih0 _ _ _ _ _ _ _ _ _ _ _ _ _ _ _ _ _ _ _ _ _ _ _ _ _
   | exact LeO.none _
   | refine LeO.ite ?_ ?_
   | refine LeO.bind ?_ (fun _ => ?_)
set_option maxHeartbeats 8000000 in
set_option maxRecDepth 100000 in
theorem arrearslaw8_same.calls (k : Nat) (a0_0 : Int) (a0_1 : Int) (a0_2 : Int) (a0_3 : Int) (a0_4 : Int) (a0_5 : Int) (a0_6 : Int) (a0_7 : Int) (a0_8 : Int) (a0_9 : Int) (a0_10 : Int) (a0_11 : Int) (a1_0 : Int) (a1_1 : Int) (a1_2 : Int) (a1_3 : Int) (a1_4 : Int) (a1_5 : Int) (a1_6 : Int) (a1_7 : Int) (a1_8 : Int) (a1_9 : Int) (a1_10 : Int) (a1_11 : Int) (r : Bool) (w : World) (h : arrearslaw8_same.f k a0_0 a0_1 a0_2 a0_3 a0_4 a0_5 a0_6 a0_7 a0_8 a0_9 a0_10 a0_11 a1_0 a1_1 a1_2 a1_3 a1_4 a1_5 a1_6 a1_7 a1_8 a1_9 a1_10 a1_11 = some r) :
  Calls Try.prog 16 #[.agg #[.int .i64 a0_0, .int .i64 a0_1, .int .i64 a0_2, .int .i64 a0_3, .int .i64 a0_4, .int .i64 a0_5, .int .i64 a0_6, .int .i64 a0_7, .int .i64 a0_8, .int .i64 a0_9, .int .i64 a0_10, .int .i64 a0_11], .agg #[.int .i64 a1_0, .int .i64 a1_1, .int .i64 a1_2, .int .i64 a1_3, .int .i64 a1_4, .int .i64 a1_5, .int .i64 a1_6, .int .i64 a1_7, .int .i64 a1_8, .int .i64 a1_9, .int .i64 a1_10, .int .i64 a1_11]] w fun e w' => e = .returned (.bool r) ∧ Below w.heap.size w w' := by
 have hu32 := Try.underlying32
 have HB := Aside0.mk (Below.refl w.heap.size w)
 have H : (arrearslaw8_same.l0 k 0 a0_0 a0_1 a0_2 a0_3 a0_4 a0_5 a0_6 a0_7 a0_8 a0_9 a0_10 a0_11 a1_0 a1_1 a1_2 a1_3 a1_4 a1_5 a1_6 a1_7 a1_8 a1_9 a1_10 a1_11) = some r := h
 clear h
 have H' := Aside0.mk H
 clear H
 go_enter Try.func16,Try.ntmps16
 go_wp2_with (first | ((with_reducible refine gate_dst (N:=2) rfl ?_);refine box_event ?hg (N:=2) ?hd (cs:=#[.int .i64 a0_0, .int .i64 a0_1, .int .i64 a0_2, .int .i64 a0_3, .int .i64 a0_4, .int .i64 a0_5, .int .i64 a0_6, .int .i64 a0_7, .int .i64 a0_8, .int .i64 a0_9, .int .i64 a0_10, .int .i64 a0_11]) (t:=32) ?hr ?_;(case hd => rfl);(case hg => rfl);(case hr => first | (go_simp;done) | (go_simp;rfl));intro gb130 hg w3 hbox hb;have n0_ := Aside0.mk (below_step (by repeat (first | (with_reducible first | exact HB.out | apply below_alloc | apply pw_below_drewN | apply below_drew1) | exact HB.out)) hb);have n1_ := Aside0.mk (hbox);have n2_ := Aside0.mk ((by rw [hg];exact (below_size (by repeat (first | (with_reducible first | exact HB.out | apply below_alloc | apply pw_below_drewN | apply below_drew1) | exact HB.out))) : w.heap.size ≤ gb130));have n3_ := Aside0.mk ((by rw [hg];exact (below_size (by repeat (first | (with_reducible first | exact HB.out | apply below_alloc | apply pw_below_drewN | apply below_drew1) | exact HB.out))) : w.heap.size ≤ gb130));clear HB;have HB := n0_;have BK130 := n1_;have GW130 := n2_;have GE130 := n3_;clear n0_ n1_ n2_ n3_;clear hb hbox hg) | ((with_reducible refine gate_dst (N:=3) rfl ?_);refine box_event ?hg (N:=3) ?hd (cs:=#[.int .i64 a1_0, .int .i64 a1_1, .int .i64 a1_2, .int .i64 a1_3, .int .i64 a1_4, .int .i64 a1_5, .int .i64 a1_6, .int .i64 a1_7, .int .i64 a1_8, .int .i64 a1_9, .int .i64 a1_10, .int .i64 a1_11]) (t:=32) ?hr ?_;(case hd => rfl);(case hg => rfl);(case hr => first | (go_simp;done) | (go_simp;rfl));intro gb131 hg w4 hbox hb;have n0_ := Aside0.mk (blk_below (g:=gb130) (o:=.cells #[.int .i64 a0_0, .int .i64 a0_1, .int .i64 a0_2, .int .i64 a0_3, .int .i64 a0_4, .int .i64 a0_5, .int .i64 a0_6, .int .i64 a0_7, .int .i64 a0_8, .int .i64 a0_9, .int .i64 a0_10, .int .i64 a0_11] 32 (0,0)) (by (with_reducible repeat (first | refine blk_drewN ?_ _ | refine blk_drew ?_ | refine blk_alloc ?_ _));exact BK130.out) hb);have n1_ := Aside0.mk (below_step (by repeat (first | (with_reducible first | exact HB.out | apply below_alloc | apply pw_below_drewN | apply below_drew1 | refine below_set ?_ GE130.out) | exact HB.out)) hb);have n2_ := Aside0.mk (hbox);have n3_ := Aside0.mk ((by rw [hg];exact (below_size (by repeat (first | (with_reducible first | exact HB.out | apply below_alloc | apply pw_below_drewN | apply below_drew1 | refine below_set ?_ GE130.out) | exact HB.out))) : w.heap.size ≤ gb131));have n4_ := Aside0.mk ((by rw [hg];exact (below_size (by repeat (first | (with_reducible first | exact HB.out | apply below_alloc | apply pw_below_drewN | apply below_drew1 | refine below_set ?_ GE130.out) | exact HB.out))) : w.heap.size ≤ gb131));have n5_ := Aside0.mk ((by rw [hg];exact Nat.ne_of_lt (blk_lt (g:=gb130) (o:=.cells #[.int .i64 a0_0, .int .i64 a0_1, .int .i64 a0_2, .int .i64 a0_3, .int .i64 a0_4, .int .i64 a0_5, .int .i64 a0_6, .int .i64 a0_7, .int .i64 a0_8, .int .i64 a0_9, .int .i64 a0_10, .int .i64 a0_11] 32 (0,0)) (by (with_reducible repeat (first | refine blk_drewN ?_ _ | refine blk_drew ?_ | refine blk_alloc ?_ _));exact BK130.out)) : gb130 ≠ gb131));have n6_ := Aside0.mk ((by rw [hg];exact Nat.ne_of_gt (blk_lt (g:=gb130) (o:=.cells #[.int .i64 a0_0, .int .i64 a0_1, .int .i64 a0_2, .int .i64 a0_3, .int .i64 a0_4, .int .i64 a0_5, .int .i64 a0_6, .int .i64 a0_7, .int .i64 a0_8, .int .i64 a0_9, .int .i64 a0_10, .int .i64 a0_11] 32 (0,0)) (by (with_reducible repeat (first | refine blk_drewN ?_ _ | refine blk_drew ?_ | refine blk_alloc ?_ _));exact BK130.out)) : gb131 ≠ gb130));clear BK130;clear HB;have BK130 := n0_;have HB := n1_;have BK131 := n2_;have GW131 := n3_;have GE131 := n4_;have NB130_131 := n5_;have NB131_130 := n6_;clear n0_ n1_ n2_ n3_ n4_ n5_ n6_;clear hb hbox hg))
 repeat (go_quiet (first | ((with_reducible refine gate_dst (N:=2) rfl ?_);refine box_event ?hg (N:=2) ?hd (cs:=#[.int .i64 a0_0, .int .i64 a0_1, .int .i64 a0_2, .int .i64 a0_3, .int .i64 a0_4, .int .i64 a0_5, .int .i64 a0_6, .int .i64 a0_7, .int .i64 a0_8, .int .i64 a0_9, .int .i64 a0_10, .int .i64 a0_11]) (t:=32) ?hr ?_;(case hd => rfl);(case hg => rfl);(case hr => first | (go_simp;done) | (go_simp;rfl));intro gb130 hg w3 hbox hb;have n0_ := Aside0.mk (below_step (by repeat (first | (with_reducible first | exact HB.out | apply below_alloc | apply pw_below_drewN | apply below_drew1) | exact HB.out)) hb);have n1_ := Aside0.mk (hbox);have n2_ := Aside0.mk ((by rw [hg];exact (below_size (by repeat (first | (with_reducible first | exact HB.out | apply below_alloc | apply pw_below_drewN | apply below_drew1) | exact HB.out))) : w.heap.size ≤ gb130));have n3_ := Aside0.mk ((by rw [hg];exact (below_size (by repeat (first | (with_reducible first | exact HB.out | apply below_alloc | apply pw_below_drewN | apply below_drew1) | exact HB.out))) : w.heap.size ≤ gb130));clear HB;have HB := n0_;have BK130 := n1_;have GW130 := n2_;have GE130 := n3_;clear n0_ n1_ n2_ n3_;clear hb hbox hg) | ((with_reducible refine gate_dst (N:=3) rfl ?_);refine box_event ?hg (N:=3) ?hd (cs:=#[.int .i64 a1_0, .int .i64 a1_1, .int .i64 a1_2, .int .i64 a1_3, .int .i64 a1_4, .int .i64 a1_5, .int .i64 a1_6, .int .i64 a1_7, .int .i64 a1_8, .int .i64 a1_9, .int .i64 a1_10, .int .i64 a1_11]) (t:=32) ?hr ?_;(case hd => rfl);(case hg => rfl);(case hr => first | (go_simp;done) | (go_simp;rfl));intro gb131 hg w4 hbox hb;have n0_ := Aside0.mk (blk_below (g:=gb130) (o:=.cells #[.int .i64 a0_0, .int .i64 a0_1, .int .i64 a0_2, .int .i64 a0_3, .int .i64 a0_4, .int .i64 a0_5, .int .i64 a0_6, .int .i64 a0_7, .int .i64 a0_8, .int .i64 a0_9, .int .i64 a0_10, .int .i64 a0_11] 32 (0,0)) (by (with_reducible repeat (first | refine blk_drewN ?_ _ | refine blk_drew ?_ | refine blk_alloc ?_ _));exact BK130.out) hb);have n1_ := Aside0.mk (below_step (by repeat (first | (with_reducible first | exact HB.out | apply below_alloc | apply pw_below_drewN | apply below_drew1 | refine below_set ?_ GE130.out) | exact HB.out)) hb);have n2_ := Aside0.mk (hbox);have n3_ := Aside0.mk ((by rw [hg];exact (below_size (by repeat (first | (with_reducible first | exact HB.out | apply below_alloc | apply pw_below_drewN | apply below_drew1 | refine below_set ?_ GE130.out) | exact HB.out))) : w.heap.size ≤ gb131));have n4_ := Aside0.mk ((by rw [hg];exact (below_size (by repeat (first | (with_reducible first | exact HB.out | apply below_alloc | apply pw_below_drewN | apply below_drew1 | refine below_set ?_ GE130.out) | exact HB.out))) : w.heap.size ≤ gb131));have n5_ := Aside0.mk ((by rw [hg];exact Nat.ne_of_lt (blk_lt (g:=gb130) (o:=.cells #[.int .i64 a0_0, .int .i64 a0_1, .int .i64 a0_2, .int .i64 a0_3, .int .i64 a0_4, .int .i64 a0_5, .int .i64 a0_6, .int .i64 a0_7, .int .i64 a0_8, .int .i64 a0_9, .int .i64 a0_10, .int .i64 a0_11] 32 (0,0)) (by (with_reducible repeat (first | refine blk_drewN ?_ _ | refine blk_drew ?_ | refine blk_alloc ?_ _));exact BK130.out)) : gb130 ≠ gb131));have n6_ := Aside0.mk ((by rw [hg];exact Nat.ne_of_gt (blk_lt (g:=gb130) (o:=.cells #[.int .i64 a0_0, .int .i64 a0_1, .int .i64 a0_2, .int .i64 a0_3, .int .i64 a0_4, .int .i64 a0_5, .int .i64 a0_6, .int .i64 a0_7, .int .i64 a0_8, .int .i64 a0_9, .int .i64 a0_10, .int .i64 a0_11] 32 (0,0)) (by (with_reducible repeat (first | refine blk_drewN ?_ _ | refine blk_drew ?_ | refine blk_alloc ?_ _));exact BK130.out)) : gb131 ≠ gb130));clear BK130;clear HB;have BK130 := n0_;have HB := n1_;have BK131 := n2_;have GW131 := n3_;have GE131 := n4_;have NB130_131 := n5_;have NB131_130 := n6_;clear n0_ n1_ n2_ n3_ n4_ n5_ n6_;clear hb hbox hg));try go_wp2_with (first | ((with_reducible refine gate_dst (N:=2) rfl ?_);refine box_event ?hg (N:=2) ?hd (cs:=#[.int .i64 a0_0, .int .i64 a0_1, .int .i64 a0_2, .int .i64 a0_3, .int .i64 a0_4, .int .i64 a0_5, .int .i64 a0_6, .int .i64 a0_7, .int .i64 a0_8, .int .i64 a0_9, .int .i64 a0_10, .int .i64 a0_11]) (t:=32) ?hr ?_;(case hd => rfl);(case hg => rfl);(case hr => first | (go_simp;done) | (go_simp;rfl));intro gb130 hg w3 hbox hb;have n0_ := Aside0.mk (below_step (by repeat (first | (with_reducible first | exact HB.out | apply below_alloc | apply pw_below_drewN | apply below_drew1) | exact HB.out)) hb);have n1_ := Aside0.mk (hbox);have n2_ := Aside0.mk ((by rw [hg];exact (below_size (by repeat (first | (with_reducible first | exact HB.out | apply below_alloc | apply pw_below_drewN | apply below_drew1) | exact HB.out))) : w.heap.size ≤ gb130));have n3_ := Aside0.mk ((by rw [hg];exact (below_size (by repeat (first | (with_reducible first | exact HB.out | apply below_alloc | apply pw_below_drewN | apply below_drew1) | exact HB.out))) : w.heap.size ≤ gb130));clear HB;have HB := n0_;have BK130 := n1_;have GW130 := n2_;have GE130 := n3_;clear n0_ n1_ n2_ n3_;clear hb hbox hg) | ((with_reducible refine gate_dst (N:=3) rfl ?_);refine box_event ?hg (N:=3) ?hd (cs:=#[.int .i64 a1_0, .int .i64 a1_1, .int .i64 a1_2, .int .i64 a1_3, .int .i64 a1_4, .int .i64 a1_5, .int .i64 a1_6, .int .i64 a1_7, .int .i64 a1_8, .int .i64 a1_9, .int .i64 a1_10, .int .i64 a1_11]) (t:=32) ?hr ?_;(case hd => rfl);(case hg => rfl);(case hr => first | (go_simp;done) | (go_simp;rfl));intro gb131 hg w4 hbox hb;have n0_ := Aside0.mk (blk_below (g:=gb130) (o:=.cells #[.int .i64 a0_0, .int .i64 a0_1, .int .i64 a0_2, .int .i64 a0_3, .int .i64 a0_4, .int .i64 a0_5, .int .i64 a0_6, .int .i64 a0_7, .int .i64 a0_8, .int .i64 a0_9, .int .i64 a0_10, .int .i64 a0_11] 32 (0,0)) (by (with_reducible repeat (first | refine blk_drewN ?_ _ | refine blk_drew ?_ | refine blk_alloc ?_ _));exact BK130.out) hb);have n1_ := Aside0.mk (below_step (by repeat (first | (with_reducible first | exact HB.out | apply below_alloc | apply pw_below_drewN | apply below_drew1 | refine below_set ?_ GE130.out) | exact HB.out)) hb);have n2_ := Aside0.mk (hbox);have n3_ := Aside0.mk ((by rw [hg];exact (below_size (by repeat (first | (with_reducible first | exact HB.out | apply below_alloc | apply pw_below_drewN | apply below_drew1 | refine below_set ?_ GE130.out) | exact HB.out))) : w.heap.size ≤ gb131));have n4_ := Aside0.mk ((by rw [hg];exact (below_size (by repeat (first | (with_reducible first | exact HB.out | apply below_alloc | apply pw_below_drewN | apply below_drew1 | refine below_set ?_ GE130.out) | exact HB.out))) : w.heap.size ≤ gb131));have n5_ := Aside0.mk ((by rw [hg];exact Nat.ne_of_lt (blk_lt (g:=gb130) (o:=.cells #[.int .i64 a0_0, .int .i64 a0_1, .int .i64 a0_2, .int .i64 a0_3, .int .i64 a0_4, .int .i64 a0_5, .int .i64 a0_6, .int .i64 a0_7, .int .i64 a0_8, .int .i64 a0_9, .int .i64 a0_10, .int .i64 a0_11] 32 (0,0)) (by (with_reducible repeat (first | refine blk_drewN ?_ _ | refine blk_drew ?_ | refine blk_alloc ?_ _));exact BK130.out)) : gb130 ≠ gb131));have n6_ := Aside0.mk ((by rw [hg];exact Nat.ne_of_gt (blk_lt (g:=gb130) (o:=.cells #[.int .i64 a0_0, .int .i64 a0_1, .int .i64 a0_2, .int .i64 a0_3, .int .i64 a0_4, .int .i64 a0_5, .int .i64 a0_6, .int .i64 a0_7, .int .i64 a0_8, .int .i64 a0_9, .int .i64 a0_10, .int .i64 a0_11] 32 (0,0)) (by (with_reducible repeat (first | refine blk_drewN ?_ _ | refine blk_drew ?_ | refine blk_alloc ?_ _));exact BK130.out)) : gb131 ≠ gb130));clear BK130;clear HB;have BK130 := n0_;have HB := n1_;have BK131 := n2_;have GW131 := n3_;have GE131 := n4_;have NB130_131 := n5_;have NB131_130 := n6_;clear n0_ n1_ n2_ n3_ n4_ n5_ n6_;clear hb hbox hg)))
 go_loopg [5] k (fun kq v5 w' => ∃ (x5_1 : Int),v5 = .int .i64 x5_1 ∧ Aside0 (arrearslaw8_same.l0 kq x5_1 a0_0 a0_1 a0_2 a0_3 a0_4 a0_5 a0_6 a0_7 a0_8 a0_9 a0_10 a0_11 a1_0 a1_1 a1_2 a1_3 a1_4 a1_5 a1_6 a1_7 a1_8 a1_9 a1_10 a1_11 = some r) ∧ Aside0 (kq ≤ k) ∧ Aside0 (w'.heap[gb130]? = some (.cells #[.int .i64 a0_0, .int .i64 a0_1, .int .i64 a0_2, .int .i64 a0_3, .int .i64 a0_4, .int .i64 a0_5, .int .i64 a0_6, .int .i64 a0_7, .int .i64 a0_8, .int .i64 a0_9, .int .i64 a0_10, .int .i64 a0_11] 32 (0,0))) ∧ Aside0 (w'.heap[gb131]? = some (.cells #[.int .i64 a1_0, .int .i64 a1_1, .int .i64 a1_2, .int .i64 a1_3, .int .i64 a1_4, .int .i64 a1_5, .int .i64 a1_6, .int .i64 a1_7, .int .i64 a1_8, .int .i64 a1_9, .int .i64 a1_10, .int .i64 a1_11] 32 (0,0))) ∧ Aside0 (Below w.heap.size w w'))
 case atStart => exact ⟨(0),(by first | rfl | (simp;done) | (simp [*];done)),H',⟨Nat.le_refl _⟩,⟨by (with_reducible repeat (first | refine blk_drewN ?_ _ | refine blk_drew ?_ | refine blk_alloc ?_ _));exact BK130.out⟩,⟨by (with_reducible repeat (first | refine blk_drewN ?_ _ | refine blk_drew ?_ | refine blk_alloc ?_ _));exact BK131.out⟩,⟨by repeat (first | (with_reducible first | exact HB.out | apply below_alloc | apply pw_below_drewN | apply below_drew1 | refine below_set ?_ GE130.out | refine below_set ?_ GE131.out) | exact HB.out)⟩⟩
 case round =>
  clear H'
  try clear c1
  try clear p2
  obtain ⟨x5_1,rfl,HA,HK1,BK130,BK131,HB⟩ := hrel
  cases gk with
  | zero => exact absurd HA.out (by simp [arrearslaw8_same.l0])
  | succ k1 =>
   have H := HA.out
   clear HA
   simp only [arrearslaw8_same.l0] at H
   by_cases c5 : x5_1 < 12
   ·
    rw [if_pos c5] at H
    have c5b0 : decide (x5_1 < 12) = true := decide_eq_true c5
    clear c5
    by_cases c6 : 0 ≤ x5_1
    ·
     rw [if_pos c6] at H
     have c6b0 : decide (0 ≤ x5_1) = true := decide_eq_true c6
     clear c6
     by_cases c7 : (selI [a0_0,a0_1,a0_2,a0_3,a0_4,a0_5,a0_6,a0_7,a0_8,a0_9,a0_10,a0_11] x5_1) = (selI [a1_0,a1_1,a1_2,a1_3,a1_4,a1_5,a1_6,a1_7,a1_8,a1_9,a1_10,a1_11] x5_1)
     ·
      rw [if_pos c7] at H
      have c7b0 : ((selI [a0_0,a0_1,a0_2,a0_3,a0_4,a0_5,a0_6,a0_7,a0_8,a0_9,a0_10,a0_11] x5_1) == (selI [a1_0,a1_1,a1_2,a1_3,a1_4,a1_5,a1_6,a1_7,a1_8,a1_9,a1_10,a1_11] x5_1)) = true := beq_iff_eq.mpr c7
      have c7b1 : ((selI [a0_0,a0_1,a0_2,a0_3,a0_4,a0_5,a0_6,a0_7,a0_8,a0_9,a0_10,a0_11] x5_1) != (selI [a1_0,a1_1,a1_2,a1_3,a1_4,a1_5,a1_6,a1_7,a1_8,a1_9,a1_10,a1_11] x5_1)) = false := bne_eq_false_iff_eq.mpr c7
      clear c7
      have H' := Aside0.mk H
      clear H
      have p132 : 0 ≤ (x5_1 : Int) := of_decide_eq_true (by first | (with_reducible assumption) | assumption)
      have q132 : (x5_1 : Int) < 12 := of_decide_eq_true (by first | (with_reducible assumption) | assumption)
      have hs132 : wr.cell? ⟨gb130,(x5_1 : Int).toNat,none⟩ = some (.int .i64 (selI [a0_0,a0_1,a0_2,a0_3,a0_4,a0_5,a0_6,a0_7,a0_8,a0_9,a0_10,a0_11] x5_1)) := (blk_cell BK130.out ((x5_1 : Int).toNat)).trans (selI_at .i64 [a0_0,a0_1,a0_2,a0_3,a0_4,a0_5,a0_6,a0_7,a0_8,a0_9,a0_10,a0_11] x5_1 p132 q132)
      have t132 := eq_true (show (x5_1 : Int).toNat < 12 by omega)
      replace p132 := eq_true p132
      replace q132 := eq_true q132
      have p133 : 0 ≤ (x5_1 : Int) := of_decide_eq_true (by first | (with_reducible assumption) | assumption)
      have q133 : (x5_1 : Int) < 12 := of_decide_eq_true (by first | (with_reducible assumption) | assumption)
      have hs133 : wr.cell? ⟨gb131,(x5_1 : Int).toNat,none⟩ = some (.int .i64 (selI [a1_0,a1_1,a1_2,a1_3,a1_4,a1_5,a1_6,a1_7,a1_8,a1_9,a1_10,a1_11] x5_1)) := (blk_cell BK131.out ((x5_1 : Int).toNat)).trans (selI_at .i64 [a1_0,a1_1,a1_2,a1_3,a1_4,a1_5,a1_6,a1_7,a1_8,a1_9,a1_10,a1_11] x5_1 p133 q133)
      have t133 := eq_true (show (x5_1 : Int).toNat < 12 by omega)
      replace p133 := eq_true p133
      replace q133 := eq_true q133
      go_wp2
      repeat (go_quiet (fail);try go_wp2)
      go_roundg k1
      case measure => have := HK1.out;omega
      case rel => exact ⟨(wrap64 (x5_1 + 1)),(by first | rfl | (simp;done) | (simp [*];done)),H',⟨by have := HK1.out;omega⟩,⟨by (with_reducible repeat (first | refine blk_drewN ?_ _ | refine blk_drew ?_ | refine blk_alloc ?_ _));exact BK130.out⟩,⟨by (with_reducible repeat (first | refine blk_drewN ?_ _ | refine blk_drew ?_ | refine blk_alloc ?_ _));exact BK131.out⟩,⟨by repeat (first | (with_reducible first | exact HB.out | apply below_alloc | apply pw_below_drewN | apply below_drew1 | refine below_set ?_ GE130.out | refine below_set ?_ GE131.out) | exact HB.out)⟩⟩
     ·
      rw [if_neg c7] at H
      have c7b0 : ((selI [a0_0,a0_1,a0_2,a0_3,a0_4,a0_5,a0_6,a0_7,a0_8,a0_9,a0_10,a0_11] x5_1) == (selI [a1_0,a1_1,a1_2,a1_3,a1_4,a1_5,a1_6,a1_7,a1_8,a1_9,a1_10,a1_11] x5_1)) = false := beq_eq_false_iff_ne.mpr c7
      have c7b1 : ((selI [a0_0,a0_1,a0_2,a0_3,a0_4,a0_5,a0_6,a0_7,a0_8,a0_9,a0_10,a0_11] x5_1) != (selI [a1_0,a1_1,a1_2,a1_3,a1_4,a1_5,a1_6,a1_7,a1_8,a1_9,a1_10,a1_11] x5_1)) = true := bne_iff_ne.mpr c7
      obtain rfl := Option.some.inj H
      have p132 : 0 ≤ (x5_1 : Int) := of_decide_eq_true (by first | (with_reducible assumption) | assumption)
      have q132 : (x5_1 : Int) < 12 := of_decide_eq_true (by first | (with_reducible assumption) | assumption)
      have hs132 : wr.cell? ⟨gb130,(x5_1 : Int).toNat,none⟩ = some (.int .i64 (selI [a0_0,a0_1,a0_2,a0_3,a0_4,a0_5,a0_6,a0_7,a0_8,a0_9,a0_10,a0_11] x5_1)) := (blk_cell BK130.out ((x5_1 : Int).toNat)).trans (selI_at .i64 [a0_0,a0_1,a0_2,a0_3,a0_4,a0_5,a0_6,a0_7,a0_8,a0_9,a0_10,a0_11] x5_1 p132 q132)
      have t132 := eq_true (show (x5_1 : Int).toNat < 12 by omega)
      replace p132 := eq_true p132
      replace q132 := eq_true q132
      have p133 : 0 ≤ (x5_1 : Int) := of_decide_eq_true (by first | (with_reducible assumption) | assumption)
      have q133 : (x5_1 : Int) < 12 := of_decide_eq_true (by first | (with_reducible assumption) | assumption)
      have hs133 : wr.cell? ⟨gb131,(x5_1 : Int).toNat,none⟩ = some (.int .i64 (selI [a1_0,a1_1,a1_2,a1_3,a1_4,a1_5,a1_6,a1_7,a1_8,a1_9,a1_10,a1_11] x5_1)) := (blk_cell BK131.out ((x5_1 : Int).toNat)).trans (selI_at .i64 [a1_0,a1_1,a1_2,a1_3,a1_4,a1_5,a1_6,a1_7,a1_8,a1_9,a1_10,a1_11] x5_1 p133 q133)
      have t133 := eq_true (show (x5_1 : Int).toNat < 12 by omega)
      replace p133 := eq_true p133
      replace q133 := eq_true q133
      go_wp2
      repeat (go_quiet (fail);try go_wp2)
      go_ret
      exact ⟨by first | rfl | (simp [errW_none,errW_some] <;> rfl) | (simp [*,errW_none,errW_some] <;> rfl),by repeat (first | (with_reducible first | exact HB.out | apply below_alloc | apply pw_below_drewN | apply below_drew1 | refine below_set ?_ GE130.out | refine below_set ?_ GE131.out) | exact HB.out)⟩
    ·
     rw [if_neg c6] at H
     exact absurd H (by simp)
   ·
    rw [if_neg c5] at H
    have c5b0 : decide (x5_1 < 12) = false := decide_eq_false c5
    clear c5
    obtain rfl := Option.some.inj H
    go_wp2
    repeat (go_quiet (fail);try go_wp2)
    go_ret
    exact ⟨by first | rfl | (simp [errW_none,errW_some] <;> rfl) | (simp [*,errW_none,errW_some] <;> rfl),by repeat (first | (with_reducible first | exact HB.out | apply below_alloc | apply pw_below_drewN | apply below_drew1 | refine below_set ?_ GE130.out | refine below_set ?_ GE131.out) | exact HB.out)⟩

end Go.Proofs.Ytmppfpdaglkhkaa.Z
