import Derived.Test.YtncfoaglmggdhaaYx0
import Derived.Test.YtncfoaglmggdhaaYx2
import Derived.Test.YtncfoaglmggdhaaYx12
namespace Go.Proofs.Ytncfoaglmggdhaa.Y
open Go.RowKit Go.Proofs.YtncfoaglmggdhaaW.PrintWords Go.Proofs.YtncfoaglmggdhaaW.PrintLast Go.Proofs.YtncfoaglmggdhaaW.PrintMore
attribute [local go_sem] max2_int min2_int max_two min_two max_three min_three max_four min_four   -- for this text's walks alone
set_option linter.unusedVariables false
set_option linter.unusedSimpArgs false

/-! ### arrearslaw10_anew: function 28 -/
def arrearslaw10_anew.l0 : Nat → List (S31) → Int → Int → List Int → List (S31) → Int → Int → Int → Option (Bool)
 | 0,_,_,_,_,_,_,_,_ => none
 | k + 1,x0,x2,x3,x4,x11,x12,x271000,x271001 => if x12 < (x11.length : Int) then (if 0 ≤ x12 then (if x12 < (x0.length : Int) then (arrearslaw10_anew.l0 k x0 x2 x3 x4 (x11.set (x12 : Int).toNat (⟨(rd_T31 x0 x12).f0,wrap64 (Int.tdiv ((rd_T31 x0 x12).f2) 2),wrap64 (Int.tdiv ((rd_T31 x0 x12).f1) 2), !((rd_T31 x0 x12).f3)⟩ : S31)) (wrap64 (x12 + 1)) x271000 x271001) else (none)) else (none)) else ((arrearslaw10_asked.f k x11 x271000 x271001 x2 x3 x4).bind fun t280 => (some t280))
def arrearslaw10_anew.f (k : Nat) (l0 : List (S31)) (a1_0 : Int) (a1_1 : Int) (a2 : Int) (a3 : Int) (l4 : List Int) : Option (Bool) := (arrearslaw10_copied.f l0).bind fun t271 => ((arrearslaw10_asked.f k t271 a1_0 a1_1 a2 a3 l4).bind fun t274 => (if t274 = true then (arrearslaw10_anew.l0 k l0 a2 a3 l4 t271 0 a1_0 a1_1) else (some false)))
theorem arrearslaw10_anew.mono_l : ∀ k,(∀ y0 y1 y2 y3 y4 y5 y6 y7,LeO (arrearslaw10_anew.l0 k y0 y1 y2 y3 y4 y5 y6 y7) (arrearslaw10_anew.l0 (k + 1) y0 y1 y2 y3 y4 y5 y6 y7))
 | 0 => fun _ _ _ _ _ _ _ _ r h => by simp [arrearslaw10_anew.l0] at h
 | k + 1 => by
  have ih0 := arrearslaw10_anew.mono_l k
  ·
   intro y0 y1 y2 y3 y4 y5 y6 y7
   unfold arrearslaw10_anew.l0
   repeat' first
   | (with_reducible exact ih0 _ _ _ _ _ _ _ _)
   | (with_reducible exact arrearslaw10_asked.mono _ _ _ _ _ _ _)
   | (with_reducible exact LeO.refl _)
   | (with_reducible exact LeO.none _)
   | (with_reducible refine LeO.ite ?_ ?_)
   | (with_reducible refine LeO.bind ?_ (fun _ => ?_))
   | exact ih0 _ _ _ _ _ _ _ _
   | exact arrearslaw10_asked.mono _ _ _ _ _ _ _
   | exact LeO.none _
   | refine LeO.ite ?_ ?_
   | refine LeO.bind ?_ (fun _ => ?_)
theorem arrearslaw10_anew.mono : ∀ a0 a1 a2 a3 a4 a5 k,LeO (arrearslaw10_anew.f k a0 a1 a2 a3 a4 a5) (arrearslaw10_anew.f (k + 1) a0 a1 a2 a3 a4 a5) := by
 intro a0 a1 a2 a3 a4 a5 k
 have ih0 := arrearslaw10_anew.mono_l k
 unfold arrearslaw10_anew.f
 repeat' first
   | (with_reducible exact ih0 _ _ _ _ _ _ _ _)
   | (with_reducible exact arrearslaw10_asked.mono _ _ _ _ _ _ _)
   | (with_reducible exact LeO.refl _)
   | (with_reducible exact LeO.none _)
   | (with_reducible refine LeO.ite ?_ ?_)
   | (with_reducible refine LeO.bind ?_ (fun _ => ?_))
   | exact ih0 _ _ _ _ _ _ _ _
   | exact arrearslaw10_asked.mono _ _ _ _ _ _ _
   | exact LeO.none _
   | refine LeO.ite ?_ ?_
   | refine LeO.bind ?_ (fun _ => ?_)
def arrearslaw10_anew.T7 : Bool × List (List Nat × List Nat) := (true, [([], []),([], []),([], []),([], []),([2,3], [2,3]),([4], [4]),([5], [5]),([], []),([], []),([7,8], [7,8]),([9], [9]),([10], [10]),([11], [11]),([], []),([], []),([13,14], [13,14]),([15], [15]),([16], [16]),([17], [17]),([], []),([], []),([19,20], [19,20]),([21], [21]),([22], [22]),([23], [23]),([6,12,18,24], [6,12,18,24]),([0,1,0,1,2,3,4,5,6,7,8,9,10,11,12,13,14,15,16,17,18,19,20,21,22,23,24,25], [0,1]),([26,25,0,1,2,3,4,5,6,7,8,9,10,11,12,13,14,15,16,17,18,19,20,21,22,23,24,25], [25,26])])
def arrearslaw10_anew.B7 : List Nat := [0,0,0,0,12,28,60,0,0,384,896,1920,3968,0,0,24576,57344,122880,253952,0,0,1572864,3670016,7864320,16252928,33554428,67108863,134217727]
theorem arrearslaw10_anew.tab7 : rtab .any (opsOf Try.f28 7) = arrearslaw10_anew.T7 := by kernel_rfl
theorem arrearslaw10_anew.bits7 : waitsOk arrearslaw10_anew.T7.2 arrearslaw10_anew.B7 = true := by kernel_rfl
set_option maxHeartbeats 8000000 in
set_option maxRecDepth 100000 in
theorem arrearslaw10_anew.calls (k : Nat) (A0 : Option Addr) (c0 : Nat) (l0 : List (S31)) (a1_0 : Int) (a1_1 : Int) (a2 : Int) (a3 : Int) (A4 : Option Addr) (c4 : Nat) (l4 : List Int) (r : Bool) (w : World) (hr0 : Kd.C k31 w A0 l0.length l0) (hc0 : l0.length ≤ c0) (hr4 : Kd.C (Kd.int .i64) w A4 l4.length l4) (hc4 : l4.length ≤ c4) (h : arrearslaw10_anew.f k l0 a1_0 a1_1 a2 a3 l4 = some r) :
  Calls Try.prog 28 #[.slice A0 l0.length c0, .agg #[.int .i64 a1_0, .int .i64 a1_1], .int .i64 a2, .int .i64 a3, .slice A4 l4.length c4] w fun e w' => e = .returned (.bool r) ∧ Below w.heap.size w w' := by
 have hu24 := Try.underlying24
 have hu31 := Try.underlying31
 have HR0 := Aside0.mk hr0
 have HC0 := Aside0.mk hc0
 clear hr0 hc0
 have HR4 := Aside0.mk hr4
 have HC4 := Aside0.mk hc4
 clear hr4 hc4
 have HB := Aside0.mk (Below.refl w.heap.size w)
 have H : ((arrearslaw10_copied.f l0).bind fun t271 => ((arrearslaw10_asked.f k t271 a1_0 a1_1 a2 a3 l4).bind fun t274 => (if t274 = true then (arrearslaw10_anew.l0 k l0 a2 a3 l4 t271 0 a1_0 a1_1) else (some false)))) = some r := h
 clear h
 replace H := Option.bind_eq_some_iff.mp H
 obtain ⟨t271,A60,H⟩ := H
 replace H : ((arrearslaw10_asked.f k t271 a1_0 a1_1 a2 a3 l4).bind fun t274 => (if t274 = true then (arrearslaw10_anew.l0 k l0 a2 a3 l4 t271 0 a1_0 a1_1) else (some false))) = some r := H
 have A6 := Aside0.mk A60
 clear A60
 replace H := Option.bind_eq_some_iff.mp H
 obtain ⟨t274,A70,H⟩ := H
 replace H : (if t274 = true then (arrearslaw10_anew.l0 k l0 a2 a3 l4 t271 0 a1_0 a1_1) else (some false)) = some r := H
 have A7 := Aside0.mk A70
 clear A70
 by_cases c8 : t274 = true
 ·
  subst c8
  have H1 : (arrearslaw10_anew.l0 k l0 a2 a3 l4 t271 0 a1_0 a1_1) = some r := by rw [if_pos rfl] at H;exact H
  clear H
  have H := H1
  clear H1
  have H' := Aside0.mk H
  clear H
  go_enter Try.func28,Try.ntmps28
  go_wp2_with (first | ((with_reducible refine gate_dst (N:=6) rfl ?_);refine box_event ?hg (N:=6) ?hd (cs:=#[.int .i64 a1_0, .int .i64 a1_1]) (t:=24) ?hr ?_;(case hd => rfl);(case hg => rfl);(case hr => first | (go_simp;done) | (go_simp;rfl));intro gb270 hg w9 hbox hb;have n0_ := Aside0.mk (below_step (by repeat (first | (with_reducible first | exact HB.out | apply below_alloc | apply pw_below_drewN | apply below_drew1) | exact HB.out)) hb);have n1_ := Aside0.mk (hbox);have n2_ := Aside0.mk ((by rw [hg];exact (below_size (by repeat (first | (with_reducible first | exact HB.out | apply below_alloc | apply pw_below_drewN | apply below_drew1) | exact HB.out))) : w.heap.size ≤ gb270));have n3_ := Aside0.mk ((by rw [hg];exact (below_size (by repeat (first | (with_reducible first | exact HB.out | apply below_alloc | apply pw_below_drewN | apply below_drew1) | exact HB.out))) : w.heap.size ≤ gb270));clear HB;have HB := n0_;have BK270 := n1_;have GW270 := n2_;have GE270 := n3_;clear n0_ n1_ n2_ n3_;clear hb hbox hg) | ((with_reducible refine gate_callee (f:=14) rfl ?_);refine goesL_ (some 14) rfl rfl Try.func14 (by kernel_rfl) rfl #[.slice A0 l0.length c0] rfl (by (try simp only [List.map_toArray,List.map_cons,List.map_nil]);first | done | rfl | (simp only [List.length_drop,List.length_take];rfl)) ?_;(with_reducible refine (arrearslaw10_copied.calls _ _ l0 t271 _ ?side1 ?side2 A6.out).mono ?_);(case side1 => repeat (first | exact (Kd.C_below HR0.out HB.out) | (with_reducible refine Kd.C_alloc ?_ _) | (with_reducible refine Kd.C_drewN ?_ _) | (with_reducible refine Kd.C_drew ?_)));(case side2 => exact HC0.out);rintro e w10 ⟨v272,rfl,ho0,hb⟩;refine ⟨_,rfl,?_⟩;have n0_ := Aside0.mk (Kd.R_lower ho0 (below_size (by repeat (first | (with_reducible first | exact HB.out | apply below_alloc | apply pw_below_drewN | apply below_drew1 | refine below_set ?_ GE270.out) | exact HB.out))));have n1_ := Aside0.mk (blk_below (g:=gb270) (o:=.cells #[.int .i64 a1_0, .int .i64 a1_1] 24 (0,0)) (by (with_reducible repeat (first | refine blk_drewN ?_ _ | refine blk_drew ?_ | refine blk_alloc ?_ _));exact BK270.out) hb);have n2_ := Aside0.mk (below_step (by repeat (first | (with_reducible first | exact HB.out | apply below_alloc | apply pw_below_drewN | apply below_drew1 | refine below_set ?_ GE270.out) | exact HB.out)) hb);clear BK270;clear HB;have HO273 := n0_;have BK270 := n1_;have HB := n2_;clear n0_ n1_ n2_;(try clear hb);(try clear hb2);(try clear hk);(try clear hi);(try clear ho0);have hcz11_0 : w10.cell? ⟨gb270,0,none⟩ = some (.int .i64 a1_0) := (blk_cell BK270.out 0).trans rfl;have hcz11_1 : w10.cell? ⟨gb270,1,none⟩ = some (.int .i64 a1_1) := (blk_cell BK270.out 1).trans rfl;have hfz11_0 := blk_frozen BK270.out 0;have hfz11_1 := blk_frozen BK270.out 1;obtain ⟨Ao12,co12,eo12⟩ := Kd.R_slice HO273.out;subst eo12) | ((with_reducible refine gate_callee (f:=40) rfl ?_);refine goesL_ (some 20) rfl rfl Try.func40 (by kernel_rfl) rfl #[.slice Ao12 t271.length co12, .agg #[.int .i64 a1_0, .int .i64 a1_1], .int .i64 a2, .int .i64 a3, .slice A4 l4.length c4] rfl (by (try simp only [List.map_toArray,List.map_cons,List.map_nil]);first | done | rfl | (simp only [List.length_drop,List.length_take];rfl)) ?_;(with_reducible refine (arrearslaw10_asked.calls k _ _ t271 a1_0 a1_1 a2 a3 _ _ l4 true _ ?side1 ?side2 ?side3 ?side4 A7.out).mono ?_);(case side1 => repeat (first | exact (Kd.R_reads' HO273.out).2.2 | (with_reducible refine Kd.C_alloc ?_ _) | (with_reducible refine Kd.C_drewN ?_ _) | (with_reducible refine Kd.C_drew ?_)));(case side2 => exact (Kd.R_reads' HO273.out).2.1);(case side3 => repeat (first | exact (Kd.C_below HR4.out HB.out) | (with_reducible refine Kd.C_alloc ?_ _) | (with_reducible refine Kd.C_drewN ?_ _) | (with_reducible refine Kd.C_drew ?_)));(case side4 => exact HC4.out);rintro e w13 ⟨rfl,hb⟩;refine ⟨_,rfl,?_⟩;have n0_ := Aside0.mk (Kd.R_below (by (with_reducible repeat (first | apply Kd.R_alloc | apply Kd.R_drewN | apply Kd.R_drew));exact HO273.out) hb);have n1_ := Aside0.mk (blk_below (g:=gb270) (o:=.cells #[.int .i64 a1_0, .int .i64 a1_1] 24 (0,0)) (by (with_reducible repeat (first | refine blk_drewN ?_ _ | refine blk_drew ?_ | refine blk_alloc ?_ _));exact BK270.out) hb);have n2_ := Aside0.mk (below_step (by repeat (first | (with_reducible first | exact HB.out | apply below_alloc | apply pw_below_drewN | apply below_drew1 | refine below_set ?_ GE270.out) | exact HB.out)) hb);clear HO273;clear BK270;clear HB;have HO273 := n0_;have BK270 := n1_;have HB := n2_;clear n0_ n1_ n2_;(try clear hb);(try clear hb2);(try clear hk);(try clear hi)))
  go_loopg [12] k (fun kq v12 w' => ∃ (x11_1 : List (S31)) (x12_1 : Int),v12 = .int .i64 x12_1 ∧ Aside0 (arrearslaw10_anew.l0 kq l0 a2 a3 l4 x11_1 x12_1 a1_0 a1_1 = some r) ∧ Aside0 (kq ≤ k) ∧ Aside0 (Kd.R k31 31 w' w.heap.size (fun _ => True) (.slice Ao12 t271.length co12) x11_1) ∧ Aside0 (w'.heap[gb270]? = some (.cells #[.int .i64 a1_0, .int .i64 a1_1] 24 (0,0))) ∧ Aside0 (Below w.heap.size w w'))
  case atStart => exact ⟨(t271),(0),(by first | rfl | (simp;done) | (simp [*];done)),H',⟨Nat.le_refl _⟩,⟨by (with_reducible repeat (first | apply Kd.R_alloc | apply Kd.R_drewN | apply Kd.R_drew));exact HO273.out⟩,⟨by (with_reducible repeat (first | refine blk_drewN ?_ _ | refine blk_drew ?_ | refine blk_alloc ?_ _));exact BK270.out⟩,⟨by repeat (first | (with_reducible first | exact HB.out | apply below_alloc | apply pw_below_drewN | apply below_drew1 | refine below_set ?_ GE270.out) | exact HB.out)⟩⟩
  case round =>
   clear H'
   try clear c1
   try clear c2
   try clear p2
   try clear c4
   try clear c8
   try clear hcz11_0
   try clear hcz11_1
   try clear hfz11_0
   try clear hfz11_1
   obtain ⟨x11_1,x12_1,rfl,HA,HK1,HO_11,BK270,HB⟩ := hrel
   have hl11_1 := (Kd.R_reads' HO_11.out).1
   rw [hl11_1] at HO_11
   (try simp only [hl11_1])
   (try simp only [hl11_1] at BK270)
   cases gk with
   | zero => exact absurd HA.out (by simp [arrearslaw10_anew.l0])
   | succ k1 =>
    have H := HA.out
    clear HA
    simp only [arrearslaw10_anew.l0] at H
    by_cases c14 : x12_1 < (x11_1.length : Int)
    ·
     rw [if_pos c14] at H
     have c14b0 : decide (x12_1 < (x11_1.length : Int)) = true := decide_eq_true c14
     clear c14
     by_cases c15 : 0 ≤ x12_1
     ·
      rw [if_pos c15] at H
      have c15b0 : decide (0 ≤ x12_1) = true := decide_eq_true c15
      clear c15
      by_cases c16 : x12_1 < (l0.length : Int)
      ·
       rw [if_pos c16] at H
       have c16b0 : decide (x12_1 < (l0.length : Int)) = true := decide_eq_true c16
       clear c16
       obtain ⟨y279,hy279⟩ : ∃ y_ : List (S31),y_ = (x11_1.set (x12_1 : Int).toNat (⟨(rd_T31 l0 x12_1).f0,wrap64 (Int.tdiv ((rd_T31 l0 x12_1).f2) 2),wrap64 (Int.tdiv ((rd_T31 l0 x12_1).f1) 2), !((rd_T31 l0 x12_1).f3)⟩ : S31)) := ⟨_,rfl⟩
       replace H : (arrearslaw10_anew.l0 k1 l0 a2 a3 l4 y279 (wrap64 (x12_1 + 1)) a1_0 a1_1) = some r := by first | (rw [hy279];with_reducible exact H) | (have H2_ := (Option.bind_some _ _).symm.trans H;rw [hy279];with_reducible exact H2_) | (have H2_ := (Option.bind_some _ _).symm.trans H;with_reducible exact H2_) | with_reducible exact H | (rw [hy279];exact H) | exact H
       have Ny279 := Aside0.mk hy279
       clear hy279
       have H' := Aside0.mk H
       clear H
       try go_wp2
       have n0_ := Aside0.mk (Kd.R_drew HO_11.out)
       have n1_ := Aside0.mk (blk_drew BK270.out)
       have n2_ := Aside0.mk (below_drew1 HB.out)
       clear HO_11
       clear BK270
       clear HB
       have HO_11 := n0_
       have BK270 := n1_
       have HB := n2_
       clear n0_ n1_ n2_
       have p275 : 0 ≤ (x12_1 : Int) := of_decide_eq_true (by first | (with_reducible assumption) | assumption)
       have q275 : x12_1 < (l0.length : Int) := of_decide_eq_true (by first | (with_reducible assumption) | assumption)
       obtain ⟨ad275,e275,hx275_0,hx275_1,hx275_2,hx275_3⟩ := at_T31 HR0.out x12_1 p275 q275
       have hw275_3 := hx275_3
       have hw275_2 := hx275_2
       have hw275_1 := hx275_1
       have hw275_0 := hx275_0
       cases e275
       replace hx275_0 := (HB.out.cell (World.block_lt_of_cell? w _ hx275_0)).trans hx275_0
       replace hx275_1 := (HB.out.cell (World.block_lt_of_cell? w _ hx275_1)).trans hx275_1
       replace hx275_2 := (HB.out.cell (World.block_lt_of_cell? w _ hx275_2)).trans hx275_2
       replace hx275_3 := (HB.out.cell (World.block_lt_of_cell? w _ hx275_3)).trans hx275_3
       replace p275 := eq_true p275
       replace q275 := eq_true q275
       have p276 : 0 ≤ (x12_1 : Int) := of_decide_eq_true (by first | (with_reducible assumption) | assumption)
       have q276 : x12_1 < (l0.length : Int) := of_decide_eq_true (by first | (with_reducible assumption) | assumption)
       obtain ⟨ad276,e276,hx276_0,hx276_1,hx276_2,hx276_3⟩ := at_T31 HR0.out x12_1 p276 q276
       have hw276_3 := hx276_3
       have hw276_2 := hx276_2
       have hw276_1 := hx276_1
       have hw276_0 := hx276_0
       obtain rfl : ad275 = ad276 := (by injection e276)
       replace hx276_0 := (HB.out.cell (World.block_lt_of_cell? w _ hx276_0)).trans hx276_0
       replace hx276_1 := (HB.out.cell (World.block_lt_of_cell? w _ hx276_1)).trans hx276_1
       replace hx276_2 := (HB.out.cell (World.block_lt_of_cell? w _ hx276_2)).trans hx276_2
       replace hx276_3 := (HB.out.cell (World.block_lt_of_cell? w _ hx276_3)).trans hx276_3
       replace p276 := eq_true p276
       replace q276 := eq_true q276
       have p277 : 0 ≤ (x12_1 : Int) := of_decide_eq_true (by first | (with_reducible assumption) | assumption)
       have q277 : x12_1 < (l0.length : Int) := of_decide_eq_true (by first | (with_reducible assumption) | assumption)
       obtain ⟨ad277,e277,hx277_0,hx277_1,hx277_2,hx277_3⟩ := at_T31 HR0.out x12_1 p277 q277
       have hw277_3 := hx277_3
       have hw277_2 := hx277_2
       have hw277_1 := hx277_1
       have hw277_0 := hx277_0
       obtain rfl : ad275 = ad277 := (by injection e277)
       replace hx277_0 := (HB.out.cell (World.block_lt_of_cell? w _ hx277_0)).trans hx277_0
       replace hx277_1 := (HB.out.cell (World.block_lt_of_cell? w _ hx277_1)).trans hx277_1
       replace hx277_2 := (HB.out.cell (World.block_lt_of_cell? w _ hx277_2)).trans hx277_2
       replace hx277_3 := (HB.out.cell (World.block_lt_of_cell? w _ hx277_3)).trans hx277_3
       replace p277 := eq_true p277
       replace q277 := eq_true q277
       have p278 : 0 ≤ (x12_1 : Int) := of_decide_eq_true (by first | (with_reducible assumption) | assumption)
       have q278 : x12_1 < (l0.length : Int) := of_decide_eq_true (by first | (with_reducible assumption) | assumption)
       obtain ⟨ad278,e278,hx278_0,hx278_1,hx278_2,hx278_3⟩ := at_T31 HR0.out x12_1 p278 q278
       have hw278_3 := hx278_3
       have hw278_2 := hx278_2
       have hw278_1 := hx278_1
       have hw278_0 := hx278_0
       obtain rfl : ad275 = ad278 := (by injection e278)
       replace hx278_0 := (HB.out.cell (World.block_lt_of_cell? w _ hx278_0)).trans hx278_0
       replace hx278_1 := (HB.out.cell (World.block_lt_of_cell? w _ hx278_1)).trans hx278_1
       replace hx278_2 := (HB.out.cell (World.block_lt_of_cell? w _ hx278_2)).trans hx278_2
       replace hx278_3 := (HB.out.cell (World.block_lt_of_cell? w _ hx278_3)).trans hx278_3
       replace p278 := eq_true p278
       replace q278 := eq_true q278
       have p17 : 0 ≤ (x12_1 : Int) := of_decide_eq_true (by first | (with_reducible assumption) | assumption)
       have q17 : (x12_1 : Int) < ((x11_1.length : Int) : Int) := of_decide_eq_true (by first | (with_reducible assumption) | assumption)
       obtain ⟨go17,co17,eo17,gb17,gl17,cl17,HG17⟩ := Kd.R_form HO_11.out (by omega)
       (first | cases eo17 | (injection eo17 with ea_ en_ ec_;(first | subst ea_ | (injection ea_ with ea_;subst ea_));subst ec_;clear en_))
       have GB17 := Aside0.mk gb17
       have GG17 := Aside0.mk HG17
       clear gb17 gl17 HG17
       obtain ⟨ce17,hcl17,hM17,hcc17,hfr17⟩ := Kd.R_elem HO_11.out z31 (x12_1 : Int) p17 q17
       obtain rfl := k31_openM hM17
       have hx17_0 : World.cell? _ ⟨go17,(x12_1 : Int).toNat * 4,none⟩ = some (.int .i64 ((rd_T31 x11_1 x12_1).f0)) := hcc17 0 _ rfl
       have hx17_1 : World.cell? _ ⟨go17,(x12_1 : Int).toNat * 4 + 1,none⟩ = some (.int .i64 ((rd_T31 x11_1 x12_1).f1)) := hcc17 1 _ rfl
       have hx17_2 : World.cell? _ ⟨go17,(x12_1 : Int).toNat * 4 + 2,none⟩ = some (.int .i64 ((rd_T31 x11_1 x12_1).f2)) := hcc17 2 _ rfl
       have hx17_3 : World.cell? _ ⟨go17,(x12_1 : Int).toNat * 4 + 3,none⟩ = some (.bool ((rd_T31 x11_1 x12_1).f3)) := hcc17 3 _ rfl
       have hf17_0 : World.frozen? _ ⟨go17,(x12_1 : Int).toNat * 4,none⟩ = false := hfr17 0
       have hf17_1 : World.frozen? _ ⟨go17,(x12_1 : Int).toNat * 4 + 1,none⟩ = false := hfr17 1
       have hf17_2 : World.frozen? _ ⟨go17,(x12_1 : Int).toNat * 4 + 2,none⟩ = false := hfr17 2
       have hf17_3 : World.frozen? _ ⟨go17,(x12_1 : Int).toNat * 4 + 3,none⟩ = false := hfr17 3
       clear hcl17 hcc17 hfr17 hM17
       replace p17 := eq_true p17
       replace q17 := eq_true q17
       obtain ⟨ce19,hcl19,hM19,hcc19,hfr19⟩ := Kd.R_elem HO_11.out z31 (x12_1 : Int) (of_decide_eq_true (by first | (with_reducible assumption) | assumption)) (by have h_ : (x12_1 : Int) < ((x11_1.length : Int) : Int) := of_decide_eq_true (by first | (with_reducible assumption) | assumption);first | exact h_ | (have e_ := (Kd.R_reads' HO_11.out).1;omega) | simpa using h_)
       obtain rfl := k31_openM hM19
       have HP19 := (Kd.R_seg HO_11.out (x12_1 : Int) (of_decide_eq_true (by first | (with_reducible assumption) | assumption)) (by have h_ : (x12_1 : Int) < ((x11_1.length : Int) : Int) := of_decide_eq_true (by first | (with_reducible assumption) | assumption);first | exact h_ | (have e_ := (Kd.R_reads' HO_11.out).1;omega) | simpa using h_) (seg:=[.int .i64 ((rd_T31 l0 x12_1).f0), .int .i64 (wrap64 (Int.tdiv ((rd_T31 l0 x12_1).f2) 2)), .int .i64 (wrap64 (Int.tdiv ((rd_T31 l0 x12_1).f1) 2)), .bool (!((rd_T31 l0 x12_1).f3))]) (j:=0) hcl19 hcc19 (show 4 ≤ 4 from by decide) (x' := (⟨(rd_T31 l0 x12_1).f0,wrap64 (Int.tdiv ((rd_T31 l0 x12_1).f2) 2),wrap64 (Int.tdiv ((rd_T31 l0 x12_1).f1) 2), !((rd_T31 l0 x12_1).f3)⟩ : S31)) (k31_mkM _ _ _ (⟨(rd_T31 l0 x12_1).f0,wrap64 (Int.tdiv ((rd_T31 l0 x12_1).f2) 2),wrap64 (Int.tdiv ((rd_T31 l0 x12_1).f1) 2), !((rd_T31 l0 x12_1).f3)⟩ : S31) ) (fun _ hk => hk)).1
       rw [← Ny279.out] at HP19
       have HQ19 := Aside0.mk HP19
       clear hcl19 hcc19 hfr19 hM19 HP19
       refine start_ (n:=28) (S:=fun w' => w'.cell? (ad275.add ((x12_1).toNat * 4)) = some (.int .i64 ((rd_T31 l0 x12_1).f0)) ∧ w'.cell? ⟨(ad275.add ((x12_1).toNat * 4)).block,(ad275.add ((x12_1).toNat * 4)).off + 1,none⟩ = some (.int .i64 ((rd_T31 l0 x12_1).f1)) ∧ w'.cell? ⟨(ad275.add ((x12_1).toNat * 4)).block,(ad275.add ((x12_1).toNat * 4)).off + 2,none⟩ = some (.int .i64 ((rd_T31 l0 x12_1).f2)) ∧ w'.cell? ⟨(ad275.add ((x12_1).toNat * 4)).block,(ad275.add ((x12_1).toNat * 4)).off + 3,none⟩ = some (.bool ((rd_T31 l0 x12_1).f3)) ∧ w'.cell? (ad275.add ((x12_1).toNat * 4)) = some (.int .i64 ((rd_T31 l0 x12_1).f0)) ∧ w'.cell? ⟨(ad275.add ((x12_1).toNat * 4)).block,(ad275.add ((x12_1).toNat * 4)).off + 1,none⟩ = some (.int .i64 ((rd_T31 l0 x12_1).f1)) ∧ w'.cell? ⟨(ad275.add ((x12_1).toNat * 4)).block,(ad275.add ((x12_1).toNat * 4)).off + 2,none⟩ = some (.int .i64 ((rd_T31 l0 x12_1).f2)) ∧ w'.cell? ⟨(ad275.add ((x12_1).toNat * 4)).block,(ad275.add ((x12_1).toNat * 4)).off + 3,none⟩ = some (.bool ((rd_T31 l0 x12_1).f3)) ∧ w'.cell? (ad275.add ((x12_1).toNat * 4)) = some (.int .i64 ((rd_T31 l0 x12_1).f0)) ∧ w'.cell? ⟨(ad275.add ((x12_1).toNat * 4)).block,(ad275.add ((x12_1).toNat * 4)).off + 1,none⟩ = some (.int .i64 ((rd_T31 l0 x12_1).f1)) ∧ w'.cell? ⟨(ad275.add ((x12_1).toNat * 4)).block,(ad275.add ((x12_1).toNat * 4)).off + 2,none⟩ = some (.int .i64 ((rd_T31 l0 x12_1).f2)) ∧ w'.cell? ⟨(ad275.add ((x12_1).toNat * 4)).block,(ad275.add ((x12_1).toNat * 4)).off + 3,none⟩ = some (.bool ((rd_T31 l0 x12_1).f3)) ∧ w'.cell? (ad275.add ((x12_1).toNat * 4)) = some (.int .i64 ((rd_T31 l0 x12_1).f0)) ∧ w'.cell? ⟨(ad275.add ((x12_1).toNat * 4)).block,(ad275.add ((x12_1).toNat * 4)).off + 1,none⟩ = some (.int .i64 ((rd_T31 l0 x12_1).f1)) ∧ w'.cell? ⟨(ad275.add ((x12_1).toNat * 4)).block,(ad275.add ((x12_1).toNat * 4)).off + 2,none⟩ = some (.int .i64 ((rd_T31 l0 x12_1).f2)) ∧ w'.cell? ⟨(ad275.add ((x12_1).toNat * 4)).block,(ad275.add ((x12_1).toNat * 4)).off + 3,none⟩ = some (.bool ((rd_T31 l0 x12_1).f3))) (ds:=[27]) #[false,false,false,false,false,false,false,false,false,false,false,false,false,false,false,false,false,false,false,false,false,false,false,false,false,false,false,false] (by kernel_rfl) rfl rfl ⟨((HB.out.cell (World.block_lt_of_cell? w _ hw275_0)).trans hw275_0),((HB.out.cell (World.block_lt_of_cell? w _ hw275_1)).trans hw275_1),((HB.out.cell (World.block_lt_of_cell? w _ hw275_2)).trans hw275_2),((HB.out.cell (World.block_lt_of_cell? w _ hw275_3)).trans hw275_3),((HB.out.cell (World.block_lt_of_cell? w _ hw276_0)).trans hw276_0),((HB.out.cell (World.block_lt_of_cell? w _ hw276_1)).trans hw276_1),((HB.out.cell (World.block_lt_of_cell? w _ hw276_2)).trans hw276_2),((HB.out.cell (World.block_lt_of_cell? w _ hw276_3)).trans hw276_3),((HB.out.cell (World.block_lt_of_cell? w _ hw277_0)).trans hw277_0),((HB.out.cell (World.block_lt_of_cell? w _ hw277_1)).trans hw277_1),((HB.out.cell (World.block_lt_of_cell? w _ hw277_2)).trans hw277_2),((HB.out.cell (World.block_lt_of_cell? w _ hw277_3)).trans hw277_3),((HB.out.cell (World.block_lt_of_cell? w _ hw278_0)).trans hw278_0),((HB.out.cell (World.block_lt_of_cell? w _ hw278_1)).trans hw278_1),((HB.out.cell (World.block_lt_of_cell? w _ hw278_2)).trans hw278_2),((HB.out.cell (World.block_lt_of_cell? w _ hw278_3)).trans hw278_3)⟩ (fun hHeld => ?_);refine with_tabW arrearslaw10_anew.tab7 arrearslaw10_anew.bits7 (fun HT_ HW_ => ?_)
       generalize wr.drew = w18 at HO_11 BK270 HB GG17 HQ19 hf17_0 hf17_1 hf17_2 hf17_3 hx17_0 hx17_1 hx17_2 hx17_3 hx275_0 hx275_1 hx275_2 hx275_3 hx276_0 hx276_1 hx276_2 hx276_3 hx277_0 hx277_1 hx277_2 hx277_3 hx278_0 hx278_1 hx278_2 hx278_3 hHeld ⊢
       refine pure_ (i:=0) (N:=some 28) (v:=?_) (a' := ?_) #[true,false,false,false,false,false,false,false,false,false,false,false,false,false,false,false,false,false,false,false,false,false,false,false,false,false,false,false] rfl rfl (any_of HT_.out (by kernel_rfl)) (fun _ _ _ h => h) (Or.inl ⟨by rfl,?_⟩) ?_ ?_
       rotate_left
       ·
        intro w'
        go_simp
        with_reducible rfl
       rotate_left
       ·
        simp only [Act.put,List.setIfInBounds_toArray,List.set_cons_zero,List.set_cons_succ,i64_w,i32_w]
        rfl
       refine pure_ (i:=1) (N:=some 29) (v:=?_) (a' := ?_) #[true,true,false,false,false,false,false,false,false,false,false,false,false,false,false,false,false,false,false,false,false,false,false,false,false,false,false,false] rfl rfl (any_of HT_.out (by kernel_rfl)) (fun _ _ _ h => h) (Or.inl ⟨by rfl,?_⟩) ?_ ?_
       rotate_left
       ·
        intro w'
        go_simp
        with_reducible rfl
       rotate_left
       ·
        simp only [Act.put,List.setIfInBounds_toArray,List.set_cons_zero,List.set_cons_succ,i64_w,i32_w]
        rfl
       refine pure_ (i:=2) (N:=some 30) (v:=?_) (a' := ?_) #[true,true,true,false,false,false,false,false,false,false,false,false,false,false,false,false,false,false,false,false,false,false,false,false,false,false,false,false] rfl rfl (any_of HT_.out (by kernel_rfl)) (fun _ _ _ h => h) (Or.inl ⟨by rfl,?_⟩) ?_ ?_
       rotate_left
       ·
        intro w'
        go_simp
        with_reducible rfl
       rotate_left
       ·
        simp only [Act.put,List.setIfInBounds_toArray,List.set_cons_zero,List.set_cons_succ,i64_w,i32_w]
        rfl
       refine pure_ (i:=3) (N:=some 31) (v:=?_) (a' := ?_) #[true,true,true,true,false,false,false,false,false,false,false,false,false,false,false,false,false,false,false,false,false,false,false,false,false,false,false,false] rfl rfl (any_of HT_.out (by kernel_rfl)) (fun _ _ _ h => h) (Or.inl ⟨by rfl,?_⟩) ?_ ?_
       rotate_left
       ·
        intro w'
        go_simp
        with_reducible rfl
       rotate_left
       ·
        simp only [Act.put,List.setIfInBounds_toArray,List.set_cons_zero,List.set_cons_succ,i64_w,i32_w]
        rfl
       refine pure_ (i:=4) (N:=some 32) (v:=?_) (a' := ?_) #[true,true,true,true,true,false,false,false,false,false,false,false,false,false,false,false,false,false,false,false,false,false,false,false,false,false,false,false] rfl rfl (any_of HT_.out (by kernel_rfl)) (fun _ _ _ h => h) (Or.inl ⟨by rfl,?_⟩) ?_ ?_
       rotate_left
       ·
        intro w'
        go_simp
        with_reducible rfl
       rotate_left
       ·
        simp only [Act.put,List.setIfInBounds_toArray,List.set_cons_zero,List.set_cons_succ,i64_w,i32_w]
        rfl
       refine pure_ (i:=5) (N:=some 33) (v:=?_) (a' := ?_) #[true,true,true,true,true,true,false,false,false,false,false,false,false,false,false,false,false,false,false,false,false,false,false,false,false,false,false,false] rfl rfl (any_of HT_.out (by kernel_rfl)) (fun _ _ _ h => h) (Or.inl ⟨by rfl,?_⟩) ?_ ?_
       rotate_left
       ·
        intro w'
        go_simp
        with_reducible rfl
       rotate_left
       ·
        simp only [Act.put,List.setIfInBounds_toArray,List.set_cons_zero,List.set_cons_succ,i64_w,i32_w]
        rfl
       refine pure_ (i:=7) (N:=some 35) (v:=?_) (a' := ?_) #[true,true,true,true,true,true,false,true,false,false,false,false,false,false,false,false,false,false,false,false,false,false,false,false,false,false,false,false] rfl rfl (any_of HT_.out (by kernel_rfl)) (fun _ _ _ h => h) (Or.inl ⟨by rfl,?_⟩) ?_ ?_
       rotate_left
       ·
        intro w'
        go_simp
        with_reducible rfl
       rotate_left
       ·
        simp only [Act.put,List.setIfInBounds_toArray,List.set_cons_zero,List.set_cons_succ,i64_w,i32_w]
        rfl
       refine pure_ (i:=8) (N:=some 36) (v:=?_) (a' := ?_) #[true,true,true,true,true,true,false,true,true,false,false,false,false,false,false,false,false,false,false,false,false,false,false,false,false,false,false,false] rfl rfl (any_of HT_.out (by kernel_rfl)) (fun _ _ _ h => h) (Or.inl ⟨by rfl,?_⟩) ?_ ?_
       rotate_left
       ·
        intro w'
        go_simp
        with_reducible rfl
       rotate_left
       ·
        simp only [Act.put,List.setIfInBounds_toArray,List.set_cons_zero,List.set_cons_succ,i64_w,i32_w]
        rfl
       refine pure_ (i:=9) (N:=some 37) (v:=?_) (a' := ?_) #[true,true,true,true,true,true,false,true,true,true,false,false,false,false,false,false,false,false,false,false,false,false,false,false,false,false,false,false] rfl rfl (any_of HT_.out (by kernel_rfl)) (fun _ _ _ h => h) (Or.inl ⟨by rfl,?_⟩) ?_ ?_
       rotate_left
       ·
        intro w'
        go_simp
        with_reducible rfl
       rotate_left
       ·
        simp only [Act.put,List.setIfInBounds_toArray,List.set_cons_zero,List.set_cons_succ,i64_w,i32_w]
        rfl
       refine pure_ (i:=10) (N:=some 38) (v:=?_) (a' := ?_) #[true,true,true,true,true,true,false,true,true,true,true,false,false,false,false,false,false,false,false,false,false,false,false,false,false,false,false,false] rfl rfl (any_of HT_.out (by kernel_rfl)) (fun _ _ _ h => h) (Or.inl ⟨by rfl,?_⟩) ?_ ?_
       rotate_left
       ·
        intro w'
        go_simp
        with_reducible rfl
       rotate_left
       ·
        simp only [Act.put,List.setIfInBounds_toArray,List.set_cons_zero,List.set_cons_succ,i64_w,i32_w]
        rfl
       refine pure_ (i:=13) (N:=some 41) (v:=?_) (a' := ?_) #[true,true,true,true,true,true,false,true,true,true,true,false,false,true,false,false,false,false,false,false,false,false,false,false,false,false,false,false] rfl rfl (any_of HT_.out (by kernel_rfl)) (fun _ _ _ h => h) (Or.inl ⟨by rfl,?_⟩) ?_ ?_
       rotate_left
       ·
        intro w'
        go_simp
        with_reducible rfl
       rotate_left
       ·
        simp only [Act.put,List.setIfInBounds_toArray,List.set_cons_zero,List.set_cons_succ,i64_w,i32_w]
        rfl
       refine pure_ (i:=14) (N:=some 42) (v:=?_) (a' := ?_) #[true,true,true,true,true,true,false,true,true,true,true,false,false,true,true,false,false,false,false,false,false,false,false,false,false,false,false,false] rfl rfl (any_of HT_.out (by kernel_rfl)) (fun _ _ _ h => h) (Or.inl ⟨by rfl,?_⟩) ?_ ?_
       rotate_left
       ·
        intro w'
        go_simp
        with_reducible rfl
       rotate_left
       ·
        simp only [Act.put,List.setIfInBounds_toArray,List.set_cons_zero,List.set_cons_succ,i64_w,i32_w]
        rfl
       refine pure_ (i:=15) (N:=some 43) (v:=?_) (a' := ?_) #[true,true,true,true,true,true,false,true,true,true,true,false,false,true,true,true,false,false,false,false,false,false,false,false,false,false,false,false] rfl rfl (any_of HT_.out (by kernel_rfl)) (fun _ _ _ h => h) (Or.inl ⟨by rfl,?_⟩) ?_ ?_
       rotate_left
       ·
        intro w'
        go_simp
        with_reducible rfl
       rotate_left
       ·
        simp only [Act.put,List.setIfInBounds_toArray,List.set_cons_zero,List.set_cons_succ,i64_w,i32_w]
        rfl
       refine pure_ (i:=16) (N:=some 44) (v:=?_) (a' := ?_) #[true,true,true,true,true,true,false,true,true,true,true,false,false,true,true,true,true,false,false,false,false,false,false,false,false,false,false,false] rfl rfl (any_of HT_.out (by kernel_rfl)) (fun _ _ _ h => h) (Or.inl ⟨by rfl,?_⟩) ?_ ?_
       rotate_left
       ·
        intro w'
        go_simp
        with_reducible rfl
       rotate_left
       ·
        simp only [Act.put,List.setIfInBounds_toArray,List.set_cons_zero,List.set_cons_succ,i64_w,i32_w]
        rfl
       refine pure_ (i:=19) (N:=some 47) (v:=?_) (a' := ?_) #[true,true,true,true,true,true,false,true,true,true,true,false,false,true,true,true,true,false,false,true,false,false,false,false,false,false,false,false] rfl rfl (any_of HT_.out (by kernel_rfl)) (fun _ _ _ h => h) (Or.inl ⟨by rfl,?_⟩) ?_ ?_
       rotate_left
       ·
        intro w'
        go_simp
        with_reducible rfl
       rotate_left
       ·
        simp only [Act.put,List.setIfInBounds_toArray,List.set_cons_zero,List.set_cons_succ,i64_w,i32_w]
        rfl
       refine pure_ (i:=20) (N:=some 48) (v:=?_) (a' := ?_) #[true,true,true,true,true,true,false,true,true,true,true,false,false,true,true,true,true,false,false,true,true,false,false,false,false,false,false,false] rfl rfl (any_of HT_.out (by kernel_rfl)) (fun _ _ _ h => h) (Or.inl ⟨by rfl,?_⟩) ?_ ?_
       rotate_left
       ·
        intro w'
        go_simp
        with_reducible rfl
       rotate_left
       ·
        simp only [Act.put,List.setIfInBounds_toArray,List.set_cons_zero,List.set_cons_succ,i64_w,i32_w]
        rfl
       refine pure_ (i:=21) (N:=some 49) (v:=?_) (a' := ?_) #[true,true,true,true,true,true,false,true,true,true,true,false,false,true,true,true,true,false,false,true,true,true,false,false,false,false,false,false] rfl rfl (any_of HT_.out (by kernel_rfl)) (fun _ _ _ h => h) (Or.inl ⟨by rfl,?_⟩) ?_ ?_
       rotate_left
       ·
        intro w'
        go_simp
        with_reducible rfl
       rotate_left
       ·
        simp only [Act.put,List.setIfInBounds_toArray,List.set_cons_zero,List.set_cons_succ,i64_w,i32_w]
        rfl
       refine pure_ (i:=22) (N:=some 50) (v:=?_) (a' := ?_) #[true,true,true,true,true,true,false,true,true,true,true,false,false,true,true,true,true,false,false,true,true,true,true,false,false,false,false,false] rfl rfl (any_of HT_.out (by kernel_rfl)) (fun _ _ _ h => h) (Or.inl ⟨by rfl,?_⟩) ?_ ?_
       rotate_left
       ·
        intro w'
        go_simp
        with_reducible rfl
       rotate_left
       ·
        simp only [Act.put,List.setIfInBounds_toArray,List.set_cons_zero,List.set_cons_succ,i64_w,i32_w]
        rfl
       refine take_ (i:=6) (N:=some 34) (v:=?_) (a' := ?_) #[true,true,true,true,true,true,true,true,true,true,true,false,false,true,true,true,true,false,false,true,true,true,true,false,false,false,false,false] rfl rfl (take_ofW HT_.out HW_.out (by kernel_rfl)) (fun _ _ _ h => h) (Or.inl ⟨by rfl,?_⟩) hHeld ?_ ?_
       rotate_left
       ·
        rintro w' ⟨s0,s1,s2,s3,s4,s5,s6,s7,s8,s9,s10,s11,s12,s13,s14,s15⟩
        go_simp
        with_reducible rfl
       rotate_left
       ·
        simp only [Act.put,List.setIfInBounds_toArray,List.set_cons_zero,List.set_cons_succ,i64_w,i32_w]
        rfl
       refine take_ (i:=11) (N:=some 39) (v:=?_) (a' := ?_) #[true,true,true,true,true,true,true,true,true,true,true,true,false,true,true,true,true,false,false,true,true,true,true,false,false,false,false,false] rfl rfl (take_ofW HT_.out HW_.out (by kernel_rfl)) (fun _ _ _ h => h) (Or.inl ⟨by rfl,?_⟩) hHeld ?_ ?_
       rotate_left
       ·
        rintro w' ⟨s0,s1,s2,s3,s4,s5,s6,s7,s8,s9,s10,s11,s12,s13,s14,s15⟩
        go_simp
        with_reducible rfl
       rotate_left
       ·
        simp only [Act.put,List.setIfInBounds_toArray,List.set_cons_zero,List.set_cons_succ,i64_w,i32_w]
        rfl
       refine pure_ (i:=12) (N:=some 40) (v:=?_) (a' := ?_) #[true,true,true,true,true,true,true,true,true,true,true,true,true,true,true,true,true,false,false,true,true,true,true,false,false,false,false,false] rfl rfl (any_of HT_.out (by kernel_rfl)) (fun _ _ _ h => h) (Or.inl ⟨by rfl,?_⟩) ?_ ?_
       rotate_left
       ·
        intro w'
        go_simp
        with_reducible rfl
       rotate_left
       ·
        simp only [Act.put,List.setIfInBounds_toArray,List.set_cons_zero,List.set_cons_succ,i64_w,i32_w]
        rfl
       refine take_ (i:=17) (N:=some 45) (v:=?_) (a' := ?_) #[true,true,true,true,true,true,true,true,true,true,true,true,true,true,true,true,true,true,false,true,true,true,true,false,false,false,false,false] rfl rfl (take_ofW HT_.out HW_.out (by kernel_rfl)) (fun _ _ _ h => h) (Or.inl ⟨by rfl,?_⟩) hHeld ?_ ?_
       rotate_left
       ·
        rintro w' ⟨s0,s1,s2,s3,s4,s5,s6,s7,s8,s9,s10,s11,s12,s13,s14,s15⟩
        go_simp
        with_reducible rfl
       rotate_left
       ·
        simp only [Act.put,List.setIfInBounds_toArray,List.set_cons_zero,List.set_cons_succ,i64_w,i32_w]
        rfl
       refine pure_ (i:=18) (N:=some 46) (v:=?_) (a' := ?_) #[true,true,true,true,true,true,true,true,true,true,true,true,true,true,true,true,true,true,true,true,true,true,true,false,false,false,false,false] rfl rfl (any_of HT_.out (by kernel_rfl)) (fun _ _ _ h => h) (Or.inl ⟨by rfl,?_⟩) ?_ ?_
       rotate_left
       ·
        intro w'
        go_simp
        with_reducible rfl
       rotate_left
       ·
        simp only [Act.put,List.setIfInBounds_toArray,List.set_cons_zero,List.set_cons_succ,i64_w,i32_w]
        rfl
       refine take_ (i:=23) (N:=some 51) (v:=?_) (a' := ?_) #[true,true,true,true,true,true,true,true,true,true,true,true,true,true,true,true,true,true,true,true,true,true,true,true,false,false,false,false] rfl rfl (take_ofW HT_.out HW_.out (by kernel_rfl)) (fun _ _ _ h => h) (Or.inl ⟨by rfl,?_⟩) hHeld ?_ ?_
       rotate_left
       ·
        rintro w' ⟨s0,s1,s2,s3,s4,s5,s6,s7,s8,s9,s10,s11,s12,s13,s14,s15⟩
        go_simp
        with_reducible rfl
       rotate_left
       ·
        simp only [Act.put,List.setIfInBounds_toArray,List.set_cons_zero,List.set_cons_succ,i64_w,i32_w]
        rfl
       refine pure_ (i:=24) (N:=some 52) (v:=?_) (a' := ?_) #[true,true,true,true,true,true,true,true,true,true,true,true,true,true,true,true,true,true,true,true,true,true,true,true,true,false,false,false] rfl rfl (any_of HT_.out (by kernel_rfl)) (fun _ _ _ h => h) (Or.inl ⟨by rfl,?_⟩) ?_ ?_
       rotate_left
       ·
        intro w'
        go_simp
        with_reducible rfl
       rotate_left
       ·
        simp only [Act.put,List.setIfInBounds_toArray,List.set_cons_zero,List.set_cons_succ,i64_w,i32_w]
        rfl
       refine pure_ (i:=25) (N:=some 53) (v:=?_) (a' := ?_) #[true,true,true,true,true,true,true,true,true,true,true,true,true,true,true,true,true,true,true,true,true,true,true,true,true,true,false,false] rfl rfl (any_of HT_.out (by kernel_rfl)) (fun _ _ _ h => h) (Or.inl ⟨by rfl,?_⟩) ?_ ?_
       rotate_left
       ·
        intro w'
        go_simp
        with_reducible rfl
       rotate_left
       ·
        simp only [Act.put,List.setIfInBounds_toArray,List.set_cons_zero,List.set_cons_succ,i64_w,i32_w]
        rfl
       refine pure_ (i:=26) (N:=some 54) (v:=?_) (a' := ?_) #[true,true,true,true,true,true,true,true,true,true,true,true,true,true,true,true,true,true,true,true,true,true,true,true,true,true,true,false] rfl rfl (any_of HT_.out (by kernel_rfl)) (fun _ _ _ h => h) (Or.inl ⟨by rfl,?_⟩) ?_ ?_
       rotate_left
       ·
        intro w'
        go_simp
        with_reducible rfl
       rotate_left
       ·
        simp only [Act.put,List.setIfInBounds_toArray,List.set_cons_zero,List.set_cons_succ,i64_w,i32_w]
        rfl
       refine last_ (i:=27) (N:=none) #[true,true,true,true,true,true,true,true,true,true,true,true,true,true,true,true,true,true,true,true,true,true,true,true,true,true,true,true] rfl rfl (one_of HT_.out (by kernel_rfl)) (by decide) (fun K hK => ?_)
       refine skip_ (w1:=?_) (by rfl) rfl ?_ ?_
       rotate_left
       ·
        go_simp
        rfl
       refine hK.out _ _ ?_
       clear hK K
       refine done_ (done_of HT_.out (by kernel_rfl)) ?_
       try go_wp2
       (try simp only [← hl11_1])
       go_roundg k1
       case measure => have := HK1.out;omega
       case rel => exact ⟨(y279),(wrap64 (x12_1 + 1)),(by first | rfl | (simp;done) | (simp [*];done)),H',⟨by have := HK1.out;omega⟩,⟨by (try simp only [hl11_1]);(with_reducible repeat (first | apply Kd.R_alloc | apply Kd.R_drewN | apply Kd.R_drew));exact HQ19.out⟩,⟨by (try simp only [hl11_1]);(with_reducible repeat (first | refine blk_drewN ?_ _ | refine blk_drew ?_ | refine blk_alloc ?_ _));refine blk_far ?_ (by have h_ := Kd.R_ne HO_11.out BK270.out (by decide);intro e_;exact h_ (by rw [e_];rfl)) _;(with_reducible repeat (first | refine blk_drewN ?_ _ | refine blk_drew ?_ | refine blk_alloc ?_ _));refine blk_far ?_ (by have h_ := Kd.R_ne HO_11.out BK270.out (by decide);intro e_;exact h_ (by rw [e_];rfl)) _;(with_reducible repeat (first | refine blk_drewN ?_ _ | refine blk_drew ?_ | refine blk_alloc ?_ _));refine blk_far ?_ (by have h_ := Kd.R_ne HO_11.out BK270.out (by decide);intro e_;exact h_ (by rw [e_];rfl)) _;(with_reducible repeat (first | refine blk_drewN ?_ _ | refine blk_drew ?_ | refine blk_alloc ?_ _));refine blk_far ?_ (by have h_ := Kd.R_ne HO_11.out BK270.out (by decide);intro e_;exact h_ (by rw [e_];rfl)) _;(with_reducible repeat (first | refine blk_drewN ?_ _ | refine blk_drew ?_ | refine blk_alloc ?_ _));exact BK270.out⟩,⟨by repeat (first | (with_reducible first | exact HB.out | apply below_alloc | apply pw_below_drewN | apply below_drew1 | refine below_set ?_ GB17.out | refine below_set ?_ GB17.out | refine below_set ?_ GB17.out | refine below_set ?_ GB17.out | refine below_set ?_ GE270.out) | exact HB.out)⟩⟩
      ·
       rw [if_neg c16] at H
       exact absurd H (by simp)
     ·
      rw [if_neg c15] at H
      exact absurd H (by simp)
    ·
     rw [if_neg c14] at H
     have c14b0 : decide (x12_1 < (x11_1.length : Int)) = false := decide_eq_false c14
     clear c14
     replace H := Option.bind_eq_some_iff.mp H
     obtain ⟨t280,A200,H⟩ := H
     replace H : (some t280) = some r := H
     have A20 := Aside0.mk A200
     clear A200
     obtain rfl := Option.some.inj H
     have hcz21_0 : wr.cell? ⟨gb270,0,none⟩ = some (.int .i64 a1_0) := (blk_cell BK270.out 0).trans rfl
     have hcz21_1 : wr.cell? ⟨gb270,1,none⟩ = some (.int .i64 a1_1) := (blk_cell BK270.out 1).trans rfl
     have hfz21_0 := blk_frozen BK270.out 0
     have hfz21_1 := blk_frozen BK270.out 1
     go_wp2_with (first | ((with_reducible refine gate_callee (f:=40) rfl ?_);refine goesL_ (some 60) rfl rfl Try.func40 (by kernel_rfl) rfl #[.slice Ao12 x11_1.length co12, .agg #[.int .i64 a1_0, .int .i64 a1_1], .int .i64 a2, .int .i64 a3, .slice A4 l4.length c4] rfl (by (try simp only [List.map_toArray,List.map_cons,List.map_nil]);first | done | rfl | (simp only [List.length_drop,List.length_take];rfl)) ?_;(with_reducible refine (arrearslaw10_asked.calls k1 _ _ x11_1 a1_0 a1_1 a2 a3 _ _ l4 t280 _ ?side1 ?side2 ?side3 ?side4 A20.out).mono ?_);(case side1 => repeat (first | exact (Kd.R_reads' HO_11.out).2.2 | (with_reducible refine Kd.C_alloc ?_ _) | (with_reducible refine Kd.C_drewN ?_ _) | (with_reducible refine Kd.C_drew ?_)));(case side2 => exact (Kd.R_reads' HO_11.out).2.1);(case side3 => repeat (first | exact (Kd.C_below HR4.out HB.out) | (with_reducible refine Kd.C_alloc ?_ _) | (with_reducible refine Kd.C_drewN ?_ _) | (with_reducible refine Kd.C_drew ?_)));(case side4 => exact HC4.out);rintro e w22 ⟨rfl,hb⟩;refine ⟨_,rfl,?_⟩;have n0_ := Aside0.mk (Kd.R_below (by (with_reducible repeat (first | apply Kd.R_alloc | apply Kd.R_drewN | apply Kd.R_drew));exact HO_11.out) hb);have n1_ := Aside0.mk (blk_below (g:=gb270) (o:=.cells #[.int .i64 a1_0, .int .i64 a1_1] 24 (0,0)) (by (with_reducible repeat (first | refine blk_drewN ?_ _ | refine blk_drew ?_ | refine blk_alloc ?_ _));exact BK270.out) hb);have n2_ := Aside0.mk (below_step (by repeat (first | (with_reducible first | exact HB.out | apply below_alloc | apply pw_below_drewN | apply below_drew1 | refine below_set ?_ GE270.out) | exact HB.out)) hb);clear HO_11;clear BK270;clear HB;have HO_11 := n0_;have BK270 := n1_;have HB := n2_;clear n0_ n1_ n2_;(try clear hb);(try clear hb2);(try clear hk);(try clear hi)))
     go_ret
     exact ⟨by first | rfl | (simp [errW_none,errW_some] <;> rfl) | (simp [*,errW_none,errW_some] <;> rfl),by repeat (first | (with_reducible first | exact HB.out | apply below_alloc | apply pw_below_drewN | apply below_drew1 | refine below_set ?_ GE270.out) | exact HB.out)⟩
 ·
  replace c8 := Bool.eq_false_iff.mpr c8
  subst c8
  have H1 : (some false) = some r := by rw [if_neg (show ¬ (false = true) by decide)] at H;exact H
  clear H
  have H := H1
  clear H1
  obtain rfl := Option.some.inj H
  go_enter Try.func28,Try.ntmps28
  go_wp2_with (first | ((with_reducible refine gate_dst (N:=6) rfl ?_);refine box_event ?hg (N:=6) ?hd (cs:=#[.int .i64 a1_0, .int .i64 a1_1]) (t:=24) ?hr ?_;(case hd => rfl);(case hg => rfl);(case hr => first | (go_simp;done) | (go_simp;rfl));intro gb270 hg w23 hbox hb;have n0_ := Aside0.mk (below_step (by repeat (first | (with_reducible first | exact HB.out | apply below_alloc | apply pw_below_drewN | apply below_drew1) | exact HB.out)) hb);have n1_ := Aside0.mk (hbox);have n2_ := Aside0.mk ((by rw [hg];exact (below_size (by repeat (first | (with_reducible first | exact HB.out | apply below_alloc | apply pw_below_drewN | apply below_drew1) | exact HB.out))) : w.heap.size ≤ gb270));have n3_ := Aside0.mk ((by rw [hg];exact (below_size (by repeat (first | (with_reducible first | exact HB.out | apply below_alloc | apply pw_below_drewN | apply below_drew1) | exact HB.out))) : w.heap.size ≤ gb270));clear HB;have HB := n0_;have BK270 := n1_;have GW270 := n2_;have GE270 := n3_;clear n0_ n1_ n2_ n3_;clear hb hbox hg) | ((with_reducible refine gate_callee (f:=14) rfl ?_);refine goesL_ (some 14) rfl rfl Try.func14 (by kernel_rfl) rfl #[.slice A0 l0.length c0] rfl (by (try simp only [List.map_toArray,List.map_cons,List.map_nil]);first | done | rfl | (simp only [List.length_drop,List.length_take];rfl)) ?_;(with_reducible refine (arrearslaw10_copied.calls _ _ l0 t271 _ ?side1 ?side2 A6.out).mono ?_);(case side1 => repeat (first | exact (Kd.C_below HR0.out HB.out) | (with_reducible refine Kd.C_alloc ?_ _) | (with_reducible refine Kd.C_drewN ?_ _) | (with_reducible refine Kd.C_drew ?_)));(case side2 => exact HC0.out);rintro e w24 ⟨v272,rfl,ho0,hb⟩;refine ⟨_,rfl,?_⟩;have n0_ := Aside0.mk (Kd.R_lower ho0 (below_size (by repeat (first | (with_reducible first | exact HB.out | apply below_alloc | apply pw_below_drewN | apply below_drew1 | refine below_set ?_ GE270.out) | exact HB.out))));have n1_ := Aside0.mk (blk_below (g:=gb270) (o:=.cells #[.int .i64 a1_0, .int .i64 a1_1] 24 (0,0)) (by (with_reducible repeat (first | refine blk_drewN ?_ _ | refine blk_drew ?_ | refine blk_alloc ?_ _));exact BK270.out) hb);have n2_ := Aside0.mk (below_step (by repeat (first | (with_reducible first | exact HB.out | apply below_alloc | apply pw_below_drewN | apply below_drew1 | refine below_set ?_ GE270.out) | exact HB.out)) hb);clear BK270;clear HB;have HO273 := n0_;have BK270 := n1_;have HB := n2_;clear n0_ n1_ n2_;(try clear hb);(try clear hb2);(try clear hk);(try clear hi);(try clear ho0);have hcz25_0 : w24.cell? ⟨gb270,0,none⟩ = some (.int .i64 a1_0) := (blk_cell BK270.out 0).trans rfl;have hcz25_1 : w24.cell? ⟨gb270,1,none⟩ = some (.int .i64 a1_1) := (blk_cell BK270.out 1).trans rfl;have hfz25_0 := blk_frozen BK270.out 0;have hfz25_1 := blk_frozen BK270.out 1;obtain ⟨Ao26,co26,eo26⟩ := Kd.R_slice HO273.out;subst eo26) | ((with_reducible refine gate_callee (f:=40) rfl ?_);refine goesL_ (some 20) rfl rfl Try.func40 (by kernel_rfl) rfl #[.slice Ao26 t271.length co26, .agg #[.int .i64 a1_0, .int .i64 a1_1], .int .i64 a2, .int .i64 a3, .slice A4 l4.length c4] rfl (by (try simp only [List.map_toArray,List.map_cons,List.map_nil]);first | done | rfl | (simp only [List.length_drop,List.length_take];rfl)) ?_;(with_reducible refine (arrearslaw10_asked.calls k _ _ t271 a1_0 a1_1 a2 a3 _ _ l4 false _ ?side1 ?side2 ?side3 ?side4 A7.out).mono ?_);(case side1 => repeat (first | exact (Kd.R_reads' HO273.out).2.2 | (with_reducible refine Kd.C_alloc ?_ _) | (with_reducible refine Kd.C_drewN ?_ _) | (with_reducible refine Kd.C_drew ?_)));(case side2 => exact (Kd.R_reads' HO273.out).2.1);(case side3 => repeat (first | exact (Kd.C_below HR4.out HB.out) | (with_reducible refine Kd.C_alloc ?_ _) | (with_reducible refine Kd.C_drewN ?_ _) | (with_reducible refine Kd.C_drew ?_)));(case side4 => exact HC4.out);rintro e w27 ⟨rfl,hb⟩;refine ⟨_,rfl,?_⟩;have n0_ := Aside0.mk (Kd.R_below (by (with_reducible repeat (first | apply Kd.R_alloc | apply Kd.R_drewN | apply Kd.R_drew));exact HO273.out) hb);have n1_ := Aside0.mk (blk_below (g:=gb270) (o:=.cells #[.int .i64 a1_0, .int .i64 a1_1] 24 (0,0)) (by (with_reducible repeat (first | refine blk_drewN ?_ _ | refine blk_drew ?_ | refine blk_alloc ?_ _));exact BK270.out) hb);have n2_ := Aside0.mk (below_step (by repeat (first | (with_reducible first | exact HB.out | apply below_alloc | apply pw_below_drewN | apply below_drew1 | refine below_set ?_ GE270.out) | exact HB.out)) hb);clear HO273;clear BK270;clear HB;have HO273 := n0_;have BK270 := n1_;have HB := n2_;clear n0_ n1_ n2_;(try clear hb);(try clear hb2);(try clear hk);(try clear hi)))
  go_ret
  exact ⟨by first | rfl | (simp [errW_none,errW_some] <;> rfl) | (simp [*,errW_none,errW_some] <;> rfl),by repeat (first | (with_reducible first | exact HB.out | apply below_alloc | apply pw_below_drewN | apply below_drew1 | refine below_set ?_ GE270.out) | exact HB.out)⟩

end Go.Proofs.Ytncfoaglmggdhaa.Y
