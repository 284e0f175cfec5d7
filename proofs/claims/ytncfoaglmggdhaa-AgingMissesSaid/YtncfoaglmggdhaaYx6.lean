import Derived.Test.YtncfoaglmggdhaaYx0
import Derived.Test.YtncfoaglmggdhaaYx3
import Derived.Test.YtncfoaglmggdhaaYx5
namespace Go.Proofs.Ytncfoaglmggdhaa.Y
open Go.RowKit Go.Proofs.YtncfoaglmggdhaaW.PrintWords Go.Proofs.YtncfoaglmggdhaaW.PrintLast Go.Proofs.YtncfoaglmggdhaaW.PrintMore
attribute [local go_sem] max2_int min2_int max_two min_two max_three min_three max_four min_four   -- for this text's walks alone
set_option linter.unusedVariables false
set_option linter.unusedSimpArgs false

/-! ### arrearsref10_Missed: function 23 -/
def arrearsref10_Missed.l0 : Nat → Int → Int → List (S31) → List Int → Int → Option (List Int)
 | 0,_,_,_,_,_ => none
 | k + 1,x2,x3,x9,x10,x11 => if x11 < (x9.length : Int) then (if 0 ≤ x11 then (if ((rd_T31 x9 x11).f3 = true) then (arrearsref10_Missed.l0 k x2 x3 x9 x10 (wrap64 (x11 + 1))) else ((arrearsref10_late.f ((rd_T31 x9 x11).f0) ((rd_T31 x9 x11).f1) ((rd_T31 x9 x11).f2) ((rd_T31 x9 x11).f3) x2).bind fun t160 => (if t160 > x3 then (if x10.length < 17592186044416 then (arrearsref10_Missed.l0 k x2 x3 x9 (x10 ++ [x11]) (wrap64 (x11 + 1))) else (none)) else (arrearsref10_Missed.l0 k x2 x3 x9 x10 (wrap64 (x11 + 1)))))) else (none)) else (some x10)
def arrearsref10_Missed.f (k : Nat) (l0 : List (S31)) (a1_0 : Int) (a1_1 : Int) (a2 : Int) (a3 : Int) : Option (List Int) := (arrearsref10_rows.f k l0).bind fun t155 => (if a3 < 0 then ((arrearsref10_satisfied.f k t155 a1_0 a1_1).bind fun t157 => (arrearsref10_Missed.l0 k a2 0 t155 ([] : List Int) t157)) else ((arrearsref10_satisfied.f k t155 a1_0 a1_1).bind fun t164 => (arrearsref10_Missed.l0 k a2 a3 t155 ([] : List Int) t164)))
theorem arrearsref10_Missed.mono_l : ∀ k,(∀ y0 y1 y2 y3 y4,LeO (arrearsref10_Missed.l0 k y0 y1 y2 y3 y4) (arrearsref10_Missed.l0 (k + 1) y0 y1 y2 y3 y4))
 | 0 => fun _ _ _ _ _ r h => by simp [arrearsref10_Missed.l0] at h
 | k + 1 => by
  have ih0 := arrearsref10_Missed.mono_l k
  ·
   intro y0 y1 y2 y3 y4
   unfold arrearsref10_Missed.l0
   repeat' first
   | (with_reducible exact ih0 _ _ _ _ _)
   | (with_reducible exact arrearsref10_rows.mono _ _)
   | (with_reducible exact arrearsref10_satisfied.mono _ _ _ _)
   | (with_reducible exact LeO.refl _)
   | (with_reducible exact LeO.none _)
   | (with_reducible refine LeO.ite ?_ ?_)
   | (with_reducible refine LeO.bind ?_ (fun _ => ?_))
   | exact ih0 _ _ _ _ _
   | exact arrearsref10_rows.mono _ _
   | exact arrearsref10_satisfied.mono _ _ _ _
   | exact LeO.none _
   | refine LeO.ite ?_ ?_
   | refine LeO.bind ?_ (fun _ => ?_)
theorem arrearsref10_Missed.mono : ∀ a0 a1 a2 a3 a4 k,LeO (arrearsref10_Missed.f k a0 a1 a2 a3 a4) (arrearsref10_Missed.f (k + 1) a0 a1 a2 a3 a4) := by
 intro a0 a1 a2 a3 a4 k
 have ih0 := arrearsref10_Missed.mono_l k
 unfold arrearsref10_Missed.f
 repeat' first
   | (with_reducible exact ih0 _ _ _ _ _)
   | (with_reducible exact arrearsref10_rows.mono _ _)
   | (with_reducible exact arrearsref10_satisfied.mono _ _ _ _)
   | (with_reducible exact LeO.refl _)
   | (with_reducible exact LeO.none _)
   | (with_reducible refine LeO.ite ?_ ?_)
   | (with_reducible refine LeO.bind ?_ (fun _ => ?_))
   | exact ih0 _ _ _ _ _
   | exact arrearsref10_rows.mono _ _
   | exact arrearsref10_satisfied.mono _ _ _ _
   | exact LeO.none _
   | refine LeO.ite ?_ ?_
   | refine LeO.bind ?_ (fun _ => ?_)
set_option maxHeartbeats 8000000 in
set_option maxRecDepth 100000 in
theorem arrearsref10_Missed.calls (k : Nat) (A0 : Option Addr) (c0 : Nat) (l0 : List (S31)) (a1_0 : Int) (a1_1 : Int) (a2 : Int) (a3 : Int) (r : List Int) (w : World) (hr0 : Kd.C k31 w A0 l0.length l0) (hc0 : l0.length ≤ c0) (h : arrearsref10_Missed.f k l0 a1_0 a1_1 a2 a3 = some r) :
  Calls Try.prog 23 #[.slice A0 l0.length c0, .agg #[.int .i64 a1_0, .int .i64 a1_1], .int .i64 a2, .int .i64 a3] w fun e w' => ∃ v0_ : Value,e = .returned (v0_) ∧ Kd.R (Kd.int .i64) 3 w' w.heap.size (fun _ => True) v0_ r ∧ Below w.heap.size w w' := by
 have hu24 := Try.underlying24
 have hu31 := Try.underlying31
 have HR0 := Aside0.mk hr0
 have HC0 := Aside0.mk hc0
 clear hr0 hc0
 have HB := Aside0.mk (Below.refl w.heap.size w)
 have H : ((arrearsref10_rows.f k l0).bind fun t155 => (if a3 < 0 then ((arrearsref10_satisfied.f k t155 a1_0 a1_1).bind fun t157 => (arrearsref10_Missed.l0 k a2 0 t155 ([] : List Int) t157)) else ((arrearsref10_satisfied.f k t155 a1_0 a1_1).bind fun t164 => (arrearsref10_Missed.l0 k a2 a3 t155 ([] : List Int) t164)))) = some r := h
 clear h
 replace H := Option.bind_eq_some_iff.mp H
 obtain ⟨t155,A50,H⟩ := H
 replace H : (if a3 < 0 then ((arrearsref10_satisfied.f k t155 a1_0 a1_1).bind fun t157 => (arrearsref10_Missed.l0 k a2 0 t155 ([] : List Int) t157)) else ((arrearsref10_satisfied.f k t155 a1_0 a1_1).bind fun t164 => (arrearsref10_Missed.l0 k a2 a3 t155 ([] : List Int) t164))) = some r := H
 have A5 := Aside0.mk A50
 clear A50
 by_cases c6 : a3 < 0
 ·
  rw [if_pos c6] at H
  have c6b0 : decide (a3 < 0) = true := decide_eq_true c6
  clear c6
  replace H := Option.bind_eq_some_iff.mp H
  obtain ⟨t157,A70,H⟩ := H
  replace H : (arrearsref10_Missed.l0 k a2 0 t155 ([] : List Int) t157) = some r := H
  have A7 := Aside0.mk A70
  clear A70
  have H' := Aside0.mk H
  clear H
  go_enter Try.func23,Try.ntmps23
  go_wp2_with (first | ((with_reducible refine gate_dst (N:=5) rfl ?_);refine box_event ?hg (N:=5) ?hd (cs:=#[.int .i64 a1_0, .int .i64 a1_1]) (t:=24) ?hr ?_;(case hd => rfl);(case hg => rfl);(case hr => first | (go_simp;done) | (go_simp;rfl));intro gb154 hg w8 hbox hb;have n0_ := Aside0.mk (below_step (by repeat (first | (with_reducible first | exact HB.out | apply below_alloc | apply pw_below_drewN | apply below_drew1) | exact HB.out)) hb);have n1_ := Aside0.mk (hbox);have n2_ := Aside0.mk ((by rw [hg];exact (below_size (by repeat (first | (with_reducible first | exact HB.out | apply below_alloc | apply pw_below_drewN | apply below_drew1) | exact HB.out))) : w.heap.size ≤ gb154));have n3_ := Aside0.mk ((by rw [hg];exact (below_size (by repeat (first | (with_reducible first | exact HB.out | apply below_alloc | apply pw_below_drewN | apply below_drew1) | exact HB.out))) : w.heap.size ≤ gb154));clear HB;have HB := n0_;have BK154 := n1_;have GW154 := n2_;have GE154 := n3_;clear n0_ n1_ n2_ n3_;clear hb hbox hg) | ((with_reducible refine gate_callee (f:=38) rfl ?_);refine goesL_ (some 13) rfl rfl Try.func38 (by kernel_rfl) rfl #[.slice A0 l0.length c0] rfl (by (try simp only [List.map_toArray,List.map_cons,List.map_nil]);first | done | rfl | (simp only [List.length_drop,List.length_take];rfl)) ?_;(with_reducible refine (arrearsref10_rows.calls k _ _ l0 t155 _ ?side1 ?side2 A5.out).mono ?_);(case side1 => repeat (first | exact (Kd.C_below HR0.out HB.out) | (with_reducible refine Kd.C_alloc ?_ _) | (with_reducible refine Kd.C_drewN ?_ _) | (with_reducible refine Kd.C_drew ?_)));(case side2 => exact HC0.out);rintro e w9 ⟨A156,c156,rfl,hor_,hb⟩;refine ⟨_,rfl,?_⟩;have hr_ : Kd.C k31 w A156 t155.length t155 ∧ t155.length ≤ c156 := (by rcases hor_ with ⟨rfl,rfl,h_⟩ | ⟨rfl,rfl,h_⟩ <;> (rw [h_];first | exact ⟨HR0.out,HC0.out⟩ | exact ⟨Kd.C_nil _ _,Nat.le_refl _⟩));have HR156 := Aside0.mk hr_.1;have HC156 := Aside0.mk hr_.2;clear hr_ hor_;have n0_ := Aside0.mk (blk_below (g:=gb154) (o:=.cells #[.int .i64 a1_0, .int .i64 a1_1] 24 (0,0)) (by (with_reducible repeat (first | refine blk_drewN ?_ _ | refine blk_drew ?_ | refine blk_alloc ?_ _));exact BK154.out) hb);have n1_ := Aside0.mk (below_step (by repeat (first | (with_reducible first | exact HB.out | apply below_alloc | apply pw_below_drewN | apply below_drew1 | refine below_set ?_ GE154.out) | exact HB.out)) hb);clear BK154;clear HB;have BK154 := n0_;have HB := n1_;clear n0_ n1_;(try clear hb);(try clear hb2);(try clear hk);(try clear hi);have hcz10_0 : w9.cell? ⟨gb154,0,none⟩ = some (.int .i64 a1_0) := (blk_cell BK154.out 0).trans rfl;have hcz10_1 : w9.cell? ⟨gb154,1,none⟩ = some (.int .i64 a1_1) := (blk_cell BK154.out 1).trans rfl;have hfz10_0 := blk_frozen BK154.out 0;have hfz10_1 := blk_frozen BK154.out 1) | ((with_reducible refine gate_callee (f:=39) rfl ?_);refine goesL_ (some 18) rfl rfl Try.func39 (by kernel_rfl) rfl #[.slice A156 t155.length c156, .agg #[.int .i64 a1_0, .int .i64 a1_1]] rfl (by (try simp only [List.map_toArray,List.map_cons,List.map_nil]);first | done | rfl | (simp only [List.length_drop,List.length_take];rfl)) ?_;(with_reducible refine (arrearsref10_satisfied.calls k _ _ t155 a1_0 a1_1 t157 _ ?side1 ?side2 A7.out).mono ?_);(case side1 => repeat (first | exact (Kd.C_below HR156.out HB.out) | (with_reducible refine Kd.C_alloc ?_ _) | (with_reducible refine Kd.C_drewN ?_ _) | (with_reducible refine Kd.C_drew ?_)));(case side2 => exact HC156.out);rintro e w11 ⟨rfl,hb⟩;refine ⟨_,rfl,?_⟩;have n0_ := Aside0.mk (blk_below (g:=gb154) (o:=.cells #[.int .i64 a1_0, .int .i64 a1_1] 24 (0,0)) (by (with_reducible repeat (first | refine blk_drewN ?_ _ | refine blk_drew ?_ | refine blk_alloc ?_ _));exact BK154.out) hb);have n1_ := Aside0.mk (below_step (by repeat (first | (with_reducible first | exact HB.out | apply below_alloc | apply pw_below_drewN | apply below_drew1 | refine below_set ?_ GE154.out) | exact HB.out)) hb);clear BK154;clear HB;have BK154 := n0_;have HB := n1_;clear n0_ n1_;(try clear hb);(try clear hb2);(try clear hk);(try clear hi)))
  go_loopg [10,11] k (fun kq v10 v11 w' => ∃ (x10_1 : List Int) (x11_1 : Int),v11 = .int .i64 x11_1 ∧ Aside0 (arrearsref10_Missed.l0 kq a2 0 t155 x10_1 x11_1 = some r) ∧ Aside0 (kq ≤ k) ∧ Aside0 (Kd.R (Kd.int .i64) 3 w' w.heap.size (fun _ => True) v10 x10_1) ∧ Aside0 (w'.heap[gb154]? = some (.cells #[.int .i64 a1_0, .int .i64 a1_1] 24 (0,0))) ∧ Aside0 (Below w.heap.size w w'))
  case atStart => exact ⟨(([] : List Int)),(t157),(by first | rfl | (simp;done) | (simp [*];done)),H',⟨Nat.le_refl _⟩,⟨by first | exact Kd.R_nil _ _ _ _ _ | exact Kd.N_nil _ _ _ _ _ | exact Kd.V_nil _ _ _ _ _ | exact Kd.Q_nil _ _ _ _ _ | exact Kd.S_nil _ _ _ _ _⟩,⟨by (with_reducible repeat (first | refine blk_drewN ?_ _ | refine blk_drew ?_ | refine blk_alloc ?_ _));exact BK154.out⟩,⟨by repeat (first | (with_reducible first | exact HB.out | apply below_alloc | apply pw_below_drewN | apply below_drew1 | refine below_set ?_ GE154.out) | exact HB.out)⟩⟩
  case round =>
   clear H'
   try clear c1
   try clear c2
   try clear p2
   try clear c3
   try clear c6
   try clear c6b0
   try clear hcz10_0
   try clear hcz10_1
   try clear hfz10_0
   try clear hfz10_1
   obtain ⟨x10_1,x11_1,rfl,HA,HK1,HO_10,BK154,HB⟩ := hrel
   cases gk with
   | zero => exact absurd HA.out (by simp [arrearsref10_Missed.l0])
   | succ k1 =>
    have H := HA.out
    clear HA
    simp only [arrearsref10_Missed.l0] at H
    by_cases c12 : x11_1 < (t155.length : Int)
    ·
     rw [if_pos c12] at H
     have c12b0 : decide (x11_1 < (t155.length : Int)) = true := decide_eq_true c12
     clear c12
     by_cases c13 : 0 ≤ x11_1
     ·
      rw [if_pos c13] at H
      have c13b0 : decide (0 ≤ x11_1) = true := decide_eq_true c13
      clear c13
      obtain ⟨bq14,hbq14⟩ : ∃ b_ : Bool,b_ = ((rd_T31 t155 x11_1).f3) := ⟨_,rfl⟩
      replace H : (if (bq14 = true) then (arrearsref10_Missed.l0 k1 a2 0 t155 x10_1 (wrap64 (x11_1 + 1))) else ((arrearsref10_late.f ((rd_T31 t155 x11_1).f0) ((rd_T31 t155 x11_1).f1) ((rd_T31 t155 x11_1).f2) (bq14) a2).bind fun t160 => (if t160 > 0 then (if x10_1.length < 17592186044416 then (arrearsref10_Missed.l0 k1 a2 0 t155 (x10_1 ++ [x11_1]) (wrap64 (x11_1 + 1))) else (none)) else (arrearsref10_Missed.l0 k1 a2 0 t155 x10_1 (wrap64 (x11_1 + 1)))))) = some r := by rw [← hbq14] at H;exact H
      have Nbq14 := Aside0.mk hbq14
      clear hbq14
      by_cases c15 : (bq14 = true)
      ·
       subst c15
       have H1 : (arrearsref10_Missed.l0 k1 a2 0 t155 x10_1 (wrap64 (x11_1 + 1))) = some r := by rw [if_pos rfl] at H;exact H
       clear H
       have H := H1
       clear H1
       have H' := Aside0.mk H
       clear H
       have p158 : 0 ≤ (x11_1 : Int) := of_decide_eq_true (by first | (with_reducible assumption) | assumption)
       have q158 : x11_1 < (t155.length : Int) := of_decide_eq_true (by first | (with_reducible assumption) | assumption)
       obtain ⟨ad158,e158,hx158_0,hx158_1,hx158_2,hx158_3⟩ := at_T31 HR156.out x11_1 p158 q158
       (try rw [← Nbq14.out] at hx158_3)
       (try rw [← Nbq14.out] at hw158_3)
       (try rw [← Nbq14.out] at A16)
       (try rw [← Nbq14.out] at A22)
       (try rw [← Nbq14.out] at A31)
       (try rw [← Nbq14.out] at A5)
       (try rw [← Nbq14.out] at A7)
       cases e158
       replace hx158_0 := (HB.out.cell (World.block_lt_of_cell? w _ hx158_0)).trans hx158_0
       replace hx158_1 := (HB.out.cell (World.block_lt_of_cell? w _ hx158_1)).trans hx158_1
       replace hx158_2 := (HB.out.cell (World.block_lt_of_cell? w _ hx158_2)).trans hx158_2
       replace hx158_3 := (HB.out.cell (World.block_lt_of_cell? w _ hx158_3)).trans hx158_3
       replace p158 := eq_true p158
       replace q158 := eq_true q158
       go_wp2
       go_roundg k1
       case measure => have := HK1.out;omega
       case rel => exact ⟨(x10_1),(wrap64 (x11_1 + 1)),(by first | rfl | (simp;done) | (simp [*];done)),H',⟨by have := HK1.out;omega⟩,⟨by (with_reducible repeat (first | apply Kd.R_alloc | apply Kd.R_drewN | apply Kd.R_drew));exact HO_10.out⟩,⟨by (with_reducible repeat (first | refine blk_drewN ?_ _ | refine blk_drew ?_ | refine blk_alloc ?_ _));exact BK154.out⟩,⟨by repeat (first | (with_reducible first | exact HB.out | apply below_alloc | apply pw_below_drewN | apply below_drew1 | refine below_set ?_ GE154.out) | exact HB.out)⟩⟩
      ·
       replace c15 := Bool.eq_false_iff.mpr c15
       subst c15
       have H1 : ((arrearsref10_late.f ((rd_T31 t155 x11_1).f0) ((rd_T31 t155 x11_1).f1) ((rd_T31 t155 x11_1).f2) (false) a2).bind fun t160 => (if t160 > 0 then (if x10_1.length < 17592186044416 then (arrearsref10_Missed.l0 k1 a2 0 t155 (x10_1 ++ [x11_1]) (wrap64 (x11_1 + 1))) else (none)) else (arrearsref10_Missed.l0 k1 a2 0 t155 x10_1 (wrap64 (x11_1 + 1))))) = some r := by rw [if_neg (show ¬ (false = true) by decide)] at H;exact H
       clear H
       have H := H1
       clear H1
       replace H := Option.bind_eq_some_iff.mp H
       obtain ⟨t160,A160,H⟩ := H
       replace H : (if t160 > 0 then (if x10_1.length < 17592186044416 then (arrearsref10_Missed.l0 k1 a2 0 t155 (x10_1 ++ [x11_1]) (wrap64 (x11_1 + 1))) else (none)) else (arrearsref10_Missed.l0 k1 a2 0 t155 x10_1 (wrap64 (x11_1 + 1)))) = some r := H
       have A16 := Aside0.mk A160
       clear A160
       by_cases c17 : t160 > 0
       ·
        rw [if_pos c17] at H
        have c17b0 : decide (0 < t160) = true := decide_eq_true c17
        clear c17
        by_cases c18 : x10_1.length < 17592186044416
        ·
         rw [if_pos c18] at H
         have LMc18 := Aside0.mk c18
         clear c18
         obtain ⟨y161,hy161⟩ : ∃ y_ : List Int,y_ = (x10_1 ++ [x11_1]) := ⟨_,rfl⟩
         replace H : (arrearsref10_Missed.l0 k1 a2 0 t155 y161 (wrap64 (x11_1 + 1))) = some r := by first | (rw [hy161];with_reducible exact H) | (have H2_ := (Option.bind_some _ _).symm.trans H;rw [hy161];with_reducible exact H2_) | (have H2_ := (Option.bind_some _ _).symm.trans H;with_reducible exact H2_) | with_reducible exact H | (rw [hy161];exact H) | exact H
         have Ny161 := Aside0.mk hy161
         clear hy161
         have H' := Aside0.mk H
         clear H
         have p158 : 0 ≤ (x11_1 : Int) := of_decide_eq_true (by first | (with_reducible assumption) | assumption)
         have q158 : x11_1 < (t155.length : Int) := of_decide_eq_true (by first | (with_reducible assumption) | assumption)
         obtain ⟨ad158,e158,hx158_0,hx158_1,hx158_2,hx158_3⟩ := at_T31 HR156.out x11_1 p158 q158
         (try rw [← Nbq14.out] at hx158_3)
         (try rw [← Nbq14.out] at hw158_3)
         (try rw [← Nbq14.out] at A16)
         (try rw [← Nbq14.out] at A22)
         (try rw [← Nbq14.out] at A31)
         (try rw [← Nbq14.out] at A5)
         (try rw [← Nbq14.out] at A7)
         cases e158
         replace hx158_0 := (HB.out.cell (World.block_lt_of_cell? w _ hx158_0)).trans hx158_0
         replace hx158_1 := (HB.out.cell (World.block_lt_of_cell? w _ hx158_1)).trans hx158_1
         replace hx158_2 := (HB.out.cell (World.block_lt_of_cell? w _ hx158_2)).trans hx158_2
         replace hx158_3 := (HB.out.cell (World.block_lt_of_cell? w _ hx158_3)).trans hx158_3
         replace p158 := eq_true p158
         replace q158 := eq_true q158
         have p159 : 0 ≤ (x11_1 : Int) := of_decide_eq_true (by first | (with_reducible assumption) | assumption)
         have q159 : x11_1 < (t155.length : Int) := of_decide_eq_true (by first | (with_reducible assumption) | assumption)
         obtain ⟨ad159,e159,hx159_0,hx159_1,hx159_2,hx159_3⟩ := at_T31 HR156.out x11_1 p159 q159
         (try rw [← Nbq14.out] at hx159_3)
         (try rw [← Nbq14.out] at hw159_3)
         (try rw [← Nbq14.out] at A16)
         (try rw [← Nbq14.out] at A22)
         (try rw [← Nbq14.out] at A31)
         (try rw [← Nbq14.out] at A5)
         (try rw [← Nbq14.out] at A7)
         obtain rfl : ad158 = ad159 := (by injection e159)
         replace hx159_0 := (HB.out.cell (World.block_lt_of_cell? w _ hx159_0)).trans hx159_0
         replace hx159_1 := (HB.out.cell (World.block_lt_of_cell? w _ hx159_1)).trans hx159_1
         replace hx159_2 := (HB.out.cell (World.block_lt_of_cell? w _ hx159_2)).trans hx159_2
         replace hx159_3 := (HB.out.cell (World.block_lt_of_cell? w _ hx159_3)).trans hx159_3
         replace p159 := eq_true p159
         replace q159 := eq_true q159
         go_wp2_with (first | (go_at_call 36;(with_reducible refine (arrearsref10_late.calls ((rd_T31 t155 x11_1).f0) ((rd_T31 t155 x11_1).f1) ((rd_T31 t155 x11_1).f2) false a2 t160 _ A16.out).mono ?_);rintro e w19 ⟨rfl,hb⟩;have n0_ := Aside0.mk (Kd.R_below (by (with_reducible repeat (first | apply Kd.R_alloc | apply Kd.R_drewN | apply Kd.R_drew));exact HO_10.out) hb);have n1_ := Aside0.mk (blk_below (g:=gb154) (o:=.cells #[.int .i64 a1_0, .int .i64 a1_1] 24 (0,0)) (by (with_reducible repeat (first | refine blk_drewN ?_ _ | refine blk_drew ?_ | refine blk_alloc ?_ _));exact BK154.out) hb);have n2_ := Aside0.mk (below_step (by repeat (first | (with_reducible first | exact HB.out | apply below_alloc | apply pw_below_drewN | apply below_drew1 | refine below_set ?_ GE154.out) | exact HB.out)) hb);clear HO_10;clear BK154;clear HB;have HO_10 := n0_;have BK154 := n1_;have HB := n2_;clear n0_ n1_ n2_;(try clear hb);(try clear hb2);(try clear hk);(try clear hi)) | ((with_reducible refine gate_builtin (b:=.append) (xs:=#[.tmp 41, .tmp 43]) rfl ?_);at_builtin;refine Kd.R_append (Kd.int .i64) (w0:=w) w.heap.size rfl (.tmp 41) (.tmp 43) 41 3 (.int .i64 0) 8 rfl Try.underlying41 info3 rfl (by decide) (by omega) u10 x10_1 x11_1 [.int .i64 x11_1] (fun _ => True) (fun _ => False) rfl rfl ?aP (fun _ hk => hk.elim) ?aF ?aO ?aB ?aS ?aL ?_;(case aP => exact rfl);(case aB => exact (by repeat (first | (with_reducible first | exact HB.out | apply below_alloc | apply pw_below_drewN | apply below_drew1 | refine below_set ?_ GE154.out) | exact HB.out)));(case aF => exact (fun _ _ => trivial));(case aO => exact (by (with_reducible repeat (first | apply Kd.R_alloc | apply Kd.R_drewN | apply Kd.R_drew));exact HO_10.out));(case aS => exact (below_size (by repeat (first | (with_reducible first | exact HB.out | apply below_alloc | apply pw_below_drewN | apply below_drew1 | refine below_set ?_ GE154.out) | exact HB.out))));(case aL => have := LMc18.out;omega);intro v162 w20 ho hb hg hat;rw [← Ny161.out] at ho;have n0_ := Aside0.mk (blk_grown (g:=gb154) (o:=.cells #[.int .i64 a1_0, .int .i64 a1_1] 24 (0,0)) (by (with_reducible repeat (first | refine blk_drewN ?_ _ | refine blk_drew ?_ | refine blk_alloc ?_ _));exact BK154.out) hg (Kd.R_ne HO_10.out BK154.out (by decide)));have n1_ := Aside0.mk (hb);have n2_ := Aside0.mk (ho);clear BK154;clear HB;clear HO_10;have BK154 := n0_;have HB := n1_;have HO163 := n2_;clear n0_ n1_ n2_;clear ho hb hg hat))
         go_roundg k1
         case measure => have := HK1.out;omega
         case rel => exact ⟨(y161),(wrap64 (x11_1 + 1)),(by first | rfl | (simp;done) | (simp [*];done)),H',⟨by have := HK1.out;omega⟩,⟨by (with_reducible repeat (first | apply Kd.R_alloc | apply Kd.R_drewN | apply Kd.R_drew));exact HO163.out⟩,⟨by (with_reducible repeat (first | refine blk_drewN ?_ _ | refine blk_drew ?_ | refine blk_alloc ?_ _));exact BK154.out⟩,⟨by repeat (first | (with_reducible first | exact HB.out | apply below_alloc | apply pw_below_drewN | apply below_drew1 | refine below_set ?_ GE154.out) | exact HB.out)⟩⟩
        ·
         rw [if_neg c18] at H
         exact absurd H (by simp)
       ·
        rw [if_neg c17] at H
        have c17b0 : decide (0 < t160) = false := decide_eq_false c17
        clear c17
        have H' := Aside0.mk H
        clear H
        have p158 : 0 ≤ (x11_1 : Int) := of_decide_eq_true (by first | (with_reducible assumption) | assumption)
        have q158 : x11_1 < (t155.length : Int) := of_decide_eq_true (by first | (with_reducible assumption) | assumption)
        obtain ⟨ad158,e158,hx158_0,hx158_1,hx158_2,hx158_3⟩ := at_T31 HR156.out x11_1 p158 q158
        (try rw [← Nbq14.out] at hx158_3)
        (try rw [← Nbq14.out] at hw158_3)
        (try rw [← Nbq14.out] at A16)
        (try rw [← Nbq14.out] at A22)
        (try rw [← Nbq14.out] at A31)
        (try rw [← Nbq14.out] at A5)
        (try rw [← Nbq14.out] at A7)
        cases e158
        replace hx158_0 := (HB.out.cell (World.block_lt_of_cell? w _ hx158_0)).trans hx158_0
        replace hx158_1 := (HB.out.cell (World.block_lt_of_cell? w _ hx158_1)).trans hx158_1
        replace hx158_2 := (HB.out.cell (World.block_lt_of_cell? w _ hx158_2)).trans hx158_2
        replace hx158_3 := (HB.out.cell (World.block_lt_of_cell? w _ hx158_3)).trans hx158_3
        replace p158 := eq_true p158
        replace q158 := eq_true q158
        have p159 : 0 ≤ (x11_1 : Int) := of_decide_eq_true (by first | (with_reducible assumption) | assumption)
        have q159 : x11_1 < (t155.length : Int) := of_decide_eq_true (by first | (with_reducible assumption) | assumption)
        obtain ⟨ad159,e159,hx159_0,hx159_1,hx159_2,hx159_3⟩ := at_T31 HR156.out x11_1 p159 q159
        (try rw [← Nbq14.out] at hx159_3)
        (try rw [← Nbq14.out] at hw159_3)
        (try rw [← Nbq14.out] at A16)
        (try rw [← Nbq14.out] at A22)
        (try rw [← Nbq14.out] at A31)
        (try rw [← Nbq14.out] at A5)
        (try rw [← Nbq14.out] at A7)
        obtain rfl : ad158 = ad159 := (by injection e159)
        replace hx159_0 := (HB.out.cell (World.block_lt_of_cell? w _ hx159_0)).trans hx159_0
        replace hx159_1 := (HB.out.cell (World.block_lt_of_cell? w _ hx159_1)).trans hx159_1
        replace hx159_2 := (HB.out.cell (World.block_lt_of_cell? w _ hx159_2)).trans hx159_2
        replace hx159_3 := (HB.out.cell (World.block_lt_of_cell? w _ hx159_3)).trans hx159_3
        replace p159 := eq_true p159
        replace q159 := eq_true q159
        go_wp2_with (first | (go_at_call 36;(with_reducible refine (arrearsref10_late.calls ((rd_T31 t155 x11_1).f0) ((rd_T31 t155 x11_1).f1) ((rd_T31 t155 x11_1).f2) false a2 t160 _ A16.out).mono ?_);rintro e w21 ⟨rfl,hb⟩;have n0_ := Aside0.mk (Kd.R_below (by (with_reducible repeat (first | apply Kd.R_alloc | apply Kd.R_drewN | apply Kd.R_drew));exact HO_10.out) hb);have n1_ := Aside0.mk (blk_below (g:=gb154) (o:=.cells #[.int .i64 a1_0, .int .i64 a1_1] 24 (0,0)) (by (with_reducible repeat (first | refine blk_drewN ?_ _ | refine blk_drew ?_ | refine blk_alloc ?_ _));exact BK154.out) hb);have n2_ := Aside0.mk (below_step (by repeat (first | (with_reducible first | exact HB.out | apply below_alloc | apply pw_below_drewN | apply below_drew1 | refine below_set ?_ GE154.out) | exact HB.out)) hb);clear HO_10;clear BK154;clear HB;have HO_10 := n0_;have BK154 := n1_;have HB := n2_;clear n0_ n1_ n2_;(try clear hb);(try clear hb2);(try clear hk);(try clear hi)))
        go_roundg k1
        case measure => have := HK1.out;omega
        case rel => exact ⟨(x10_1),(wrap64 (x11_1 + 1)),(by first | rfl | (simp;done) | (simp [*];done)),H',⟨by have := HK1.out;omega⟩,⟨by (with_reducible repeat (first | apply Kd.R_alloc | apply Kd.R_drewN | apply Kd.R_drew));exact HO_10.out⟩,⟨by (with_reducible repeat (first | refine blk_drewN ?_ _ | refine blk_drew ?_ | refine blk_alloc ?_ _));exact BK154.out⟩,⟨by repeat (first | (with_reducible first | exact HB.out | apply below_alloc | apply pw_below_drewN | apply below_drew1 | refine below_set ?_ GE154.out) | exact HB.out)⟩⟩
     ·
      rw [if_neg c13] at H
      exact absurd H (by simp)
    ·
     rw [if_neg c12] at H
     have c12b0 : decide (x11_1 < (t155.length : Int)) = false := decide_eq_false c12
     clear c12
     obtain rfl := Option.some.inj H
     go_wp2
     go_ret
     exact ⟨_,by first | rfl | (simp [errW_none,errW_some] <;> rfl) | (simp [*,errW_none,errW_some] <;> rfl),by (with_reducible repeat (first | apply Kd.R_alloc | apply Kd.R_drewN | apply Kd.R_drew));exact HO_10.out,by repeat (first | (with_reducible first | exact HB.out | apply below_alloc | apply pw_below_drewN | apply below_drew1 | refine below_set ?_ GE154.out) | exact HB.out)⟩
 ·
  rw [if_neg c6] at H
  have c6b0 : decide (a3 < 0) = false := decide_eq_false c6
  clear c6
  replace H := Option.bind_eq_some_iff.mp H
  obtain ⟨t164,A220,H⟩ := H
  replace H : (arrearsref10_Missed.l0 k a2 a3 t155 ([] : List Int) t164) = some r := H
  have A22 := Aside0.mk A220
  clear A220
  have H' := Aside0.mk H
  clear H
  go_enter Try.func23,Try.ntmps23
  go_wp2_with (first | ((with_reducible refine gate_dst (N:=5) rfl ?_);refine box_event ?hg (N:=5) ?hd (cs:=#[.int .i64 a1_0, .int .i64 a1_1]) (t:=24) ?hr ?_;(case hd => rfl);(case hg => rfl);(case hr => first | (go_simp;done) | (go_simp;rfl));intro gb154 hg w23 hbox hb;have n0_ := Aside0.mk (below_step (by repeat (first | (with_reducible first | exact HB.out | apply below_alloc | apply pw_below_drewN | apply below_drew1) | exact HB.out)) hb);have n1_ := Aside0.mk (hbox);have n2_ := Aside0.mk ((by rw [hg];exact (below_size (by repeat (first | (with_reducible first | exact HB.out | apply below_alloc | apply pw_below_drewN | apply below_drew1) | exact HB.out))) : w.heap.size ≤ gb154));have n3_ := Aside0.mk ((by rw [hg];exact (below_size (by repeat (first | (with_reducible first | exact HB.out | apply below_alloc | apply pw_below_drewN | apply below_drew1) | exact HB.out))) : w.heap.size ≤ gb154));clear HB;have HB := n0_;have BK154 := n1_;have GW154 := n2_;have GE154 := n3_;clear n0_ n1_ n2_ n3_;clear hb hbox hg) | ((with_reducible refine gate_callee (f:=38) rfl ?_);refine goesL_ (some 13) rfl rfl Try.func38 (by kernel_rfl) rfl #[.slice A0 l0.length c0] rfl (by (try simp only [List.map_toArray,List.map_cons,List.map_nil]);first | done | rfl | (simp only [List.length_drop,List.length_take];rfl)) ?_;(with_reducible refine (arrearsref10_rows.calls k _ _ l0 t155 _ ?side1 ?side2 A5.out).mono ?_);(case side1 => repeat (first | exact (Kd.C_below HR0.out HB.out) | (with_reducible refine Kd.C_alloc ?_ _) | (with_reducible refine Kd.C_drewN ?_ _) | (with_reducible refine Kd.C_drew ?_)));(case side2 => exact HC0.out);rintro e w24 ⟨A156,c156,rfl,hor_,hb⟩;refine ⟨_,rfl,?_⟩;have hr_ : Kd.C k31 w A156 t155.length t155 ∧ t155.length ≤ c156 := (by rcases hor_ with ⟨rfl,rfl,h_⟩ | ⟨rfl,rfl,h_⟩ <;> (rw [h_];first | exact ⟨HR0.out,HC0.out⟩ | exact ⟨Kd.C_nil _ _,Nat.le_refl _⟩));have HR156 := Aside0.mk hr_.1;have HC156 := Aside0.mk hr_.2;clear hr_ hor_;have n0_ := Aside0.mk (blk_below (g:=gb154) (o:=.cells #[.int .i64 a1_0, .int .i64 a1_1] 24 (0,0)) (by (with_reducible repeat (first | refine blk_drewN ?_ _ | refine blk_drew ?_ | refine blk_alloc ?_ _));exact BK154.out) hb);have n1_ := Aside0.mk (below_step (by repeat (first | (with_reducible first | exact HB.out | apply below_alloc | apply pw_below_drewN | apply below_drew1 | refine below_set ?_ GE154.out) | exact HB.out)) hb);clear BK154;clear HB;have BK154 := n0_;have HB := n1_;clear n0_ n1_;(try clear hb);(try clear hb2);(try clear hk);(try clear hi);have hcz25_0 : w24.cell? ⟨gb154,0,none⟩ = some (.int .i64 a1_0) := (blk_cell BK154.out 0).trans rfl;have hcz25_1 : w24.cell? ⟨gb154,1,none⟩ = some (.int .i64 a1_1) := (blk_cell BK154.out 1).trans rfl;have hfz25_0 := blk_frozen BK154.out 0;have hfz25_1 := blk_frozen BK154.out 1) | ((with_reducible refine gate_callee (f:=39) rfl ?_);refine goesL_ (some 18) rfl rfl Try.func39 (by kernel_rfl) rfl #[.slice A156 t155.length c156, .agg #[.int .i64 a1_0, .int .i64 a1_1]] rfl (by (try simp only [List.map_toArray,List.map_cons,List.map_nil]);first | done | rfl | (simp only [List.length_drop,List.length_take];rfl)) ?_;(with_reducible refine (arrearsref10_satisfied.calls k _ _ t155 a1_0 a1_1 t164 _ ?side1 ?side2 A22.out).mono ?_);(case side1 => repeat (first | exact (Kd.C_below HR156.out HB.out) | (with_reducible refine Kd.C_alloc ?_ _) | (with_reducible refine Kd.C_drewN ?_ _) | (with_reducible refine Kd.C_drew ?_)));(case side2 => exact HC156.out);rintro e w26 ⟨rfl,hb⟩;refine ⟨_,rfl,?_⟩;have n0_ := Aside0.mk (blk_below (g:=gb154) (o:=.cells #[.int .i64 a1_0, .int .i64 a1_1] 24 (0,0)) (by (with_reducible repeat (first | refine blk_drewN ?_ _ | refine blk_drew ?_ | refine blk_alloc ?_ _));exact BK154.out) hb);have n1_ := Aside0.mk (below_step (by repeat (first | (with_reducible first | exact HB.out | apply below_alloc | apply pw_below_drewN | apply below_drew1 | refine below_set ?_ GE154.out) | exact HB.out)) hb);clear BK154;clear HB;have BK154 := n0_;have HB := n1_;clear n0_ n1_;(try clear hb);(try clear hb2);(try clear hk);(try clear hi)))
  go_loopg [10,11] k (fun kq v10 v11 w' => ∃ (x10_1 : List Int) (x11_1 : Int),v11 = .int .i64 x11_1 ∧ Aside0 (arrearsref10_Missed.l0 kq a2 a3 t155 x10_1 x11_1 = some r) ∧ Aside0 (kq ≤ k) ∧ Aside0 (Kd.R (Kd.int .i64) 3 w' w.heap.size (fun _ => True) v10 x10_1) ∧ Aside0 (w'.heap[gb154]? = some (.cells #[.int .i64 a1_0, .int .i64 a1_1] 24 (0,0))) ∧ Aside0 (Below w.heap.size w w'))
  case atStart => exact ⟨(([] : List Int)),(t164),(by first | rfl | (simp;done) | (simp [*];done)),H',⟨Nat.le_refl _⟩,⟨by first | exact Kd.R_nil _ _ _ _ _ | exact Kd.N_nil _ _ _ _ _ | exact Kd.V_nil _ _ _ _ _ | exact Kd.Q_nil _ _ _ _ _ | exact Kd.S_nil _ _ _ _ _⟩,⟨by (with_reducible repeat (first | refine blk_drewN ?_ _ | refine blk_drew ?_ | refine blk_alloc ?_ _));exact BK154.out⟩,⟨by repeat (first | (with_reducible first | exact HB.out | apply below_alloc | apply pw_below_drewN | apply below_drew1 | refine below_set ?_ GE154.out) | exact HB.out)⟩⟩
  case round =>
   clear H'
   try clear c1
   try clear p1
   try clear q1
   try clear hx1
   try clear c2
   try clear p2
   try clear c3
   try clear c6
   try clear c6b0
   try clear p6
   try clear c12
   try clear c12b0
   try clear c13
   try clear c13b0
   try clear q14
   try clear c15
   try clear p15
   try clear q15
   try clear hx15
   try clear c17
   try clear c17b0
   try clear c18
   try clear c23
   try clear hcz10_0
   try clear hcz10_1
   try clear hcz25_0
   try clear hcz25_1
   try clear hfz10_0
   try clear hfz10_1
   try clear hfz25_0
   try clear hfz25_1
   try clear hx158_0
   try clear hx158_1
   try clear hx158_2
   try clear hx158_3
   try clear hx159_0
   try clear hx159_1
   try clear hx159_2
   try clear hx159_3
   try clear p158
   try clear p159
   try clear p2
   try clear q158
   try clear q159
   obtain ⟨x10_1,x11_1,rfl,HA,HK1,HO_10,BK154,HB⟩ := hrel
   cases gk with
   | zero => exact absurd HA.out (by simp [arrearsref10_Missed.l0])
   | succ k1 =>
    have H := HA.out
    clear HA
    simp only [arrearsref10_Missed.l0] at H
    by_cases c27 : x11_1 < (t155.length : Int)
    ·
     rw [if_pos c27] at H
     have c27b0 : decide (x11_1 < (t155.length : Int)) = true := decide_eq_true c27
     clear c27
     by_cases c28 : 0 ≤ x11_1
     ·
      rw [if_pos c28] at H
      have c28b0 : decide (0 ≤ x11_1) = true := decide_eq_true c28
      clear c28
      obtain ⟨bq29,hbq29⟩ : ∃ b_ : Bool,b_ = ((rd_T31 t155 x11_1).f3) := ⟨_,rfl⟩
      replace H : (if (bq29 = true) then (arrearsref10_Missed.l0 k1 a2 a3 t155 x10_1 (wrap64 (x11_1 + 1))) else ((arrearsref10_late.f ((rd_T31 t155 x11_1).f0) ((rd_T31 t155 x11_1).f1) ((rd_T31 t155 x11_1).f2) (bq29) a2).bind fun t160 => (if t160 > a3 then (if x10_1.length < 17592186044416 then (arrearsref10_Missed.l0 k1 a2 a3 t155 (x10_1 ++ [x11_1]) (wrap64 (x11_1 + 1))) else (none)) else (arrearsref10_Missed.l0 k1 a2 a3 t155 x10_1 (wrap64 (x11_1 + 1)))))) = some r := by rw [← hbq29] at H;exact H
      have Nbq29 := Aside0.mk hbq29
      clear hbq29
      by_cases c30 : (bq29 = true)
      ·
       subst c30
       have H1 : (arrearsref10_Missed.l0 k1 a2 a3 t155 x10_1 (wrap64 (x11_1 + 1))) = some r := by rw [if_pos rfl] at H;exact H
       clear H
       have H := H1
       clear H1
       have H' := Aside0.mk H
       clear H
       have p158 : 0 ≤ (x11_1 : Int) := of_decide_eq_true (by first | (with_reducible assumption) | assumption)
       have q158 : x11_1 < (t155.length : Int) := of_decide_eq_true (by first | (with_reducible assumption) | assumption)
       obtain ⟨ad158,e158,hx158_0,hx158_1,hx158_2,hx158_3⟩ := at_T31 HR156.out x11_1 p158 q158
       (try rw [← Nbq29.out] at hx158_3)
       (try rw [← Nbq29.out] at hw158_3)
       (try rw [← Nbq29.out] at A16)
       (try rw [← Nbq29.out] at A22)
       (try rw [← Nbq29.out] at A31)
       (try rw [← Nbq29.out] at A5)
       (try rw [← Nbq29.out] at A7)
       cases e158
       replace hx158_0 := (HB.out.cell (World.block_lt_of_cell? w _ hx158_0)).trans hx158_0
       replace hx158_1 := (HB.out.cell (World.block_lt_of_cell? w _ hx158_1)).trans hx158_1
       replace hx158_2 := (HB.out.cell (World.block_lt_of_cell? w _ hx158_2)).trans hx158_2
       replace hx158_3 := (HB.out.cell (World.block_lt_of_cell? w _ hx158_3)).trans hx158_3
       replace p158 := eq_true p158
       replace q158 := eq_true q158
       go_wp2
       go_roundg k1
       case measure => have := HK1.out;omega
       case rel => exact ⟨(x10_1),(wrap64 (x11_1 + 1)),(by first | rfl | (simp;done) | (simp [*];done)),H',⟨by have := HK1.out;omega⟩,⟨by (with_reducible repeat (first | apply Kd.R_alloc | apply Kd.R_drewN | apply Kd.R_drew));exact HO_10.out⟩,⟨by (with_reducible repeat (first | refine blk_drewN ?_ _ | refine blk_drew ?_ | refine blk_alloc ?_ _));exact BK154.out⟩,⟨by repeat (first | (with_reducible first | exact HB.out | apply below_alloc | apply pw_below_drewN | apply below_drew1 | refine below_set ?_ GE154.out) | exact HB.out)⟩⟩
      ·
       replace c30 := Bool.eq_false_iff.mpr c30
       subst c30
       have H1 : ((arrearsref10_late.f ((rd_T31 t155 x11_1).f0) ((rd_T31 t155 x11_1).f1) ((rd_T31 t155 x11_1).f2) (false) a2).bind fun t160 => (if t160 > a3 then (if x10_1.length < 17592186044416 then (arrearsref10_Missed.l0 k1 a2 a3 t155 (x10_1 ++ [x11_1]) (wrap64 (x11_1 + 1))) else (none)) else (arrearsref10_Missed.l0 k1 a2 a3 t155 x10_1 (wrap64 (x11_1 + 1))))) = some r := by rw [if_neg (show ¬ (false = true) by decide)] at H;exact H
       clear H
       have H := H1
       clear H1
       replace H := Option.bind_eq_some_iff.mp H
       obtain ⟨t160,A310,H⟩ := H
       replace H : (if t160 > a3 then (if x10_1.length < 17592186044416 then (arrearsref10_Missed.l0 k1 a2 a3 t155 (x10_1 ++ [x11_1]) (wrap64 (x11_1 + 1))) else (none)) else (arrearsref10_Missed.l0 k1 a2 a3 t155 x10_1 (wrap64 (x11_1 + 1)))) = some r := H
       have A31 := Aside0.mk A310
       clear A310
       by_cases c32 : t160 > a3
       ·
        rw [if_pos c32] at H
        have c32b0 : decide (a3 < t160) = true := decide_eq_true c32
        clear c32
        by_cases c33 : x10_1.length < 17592186044416
        ·
         rw [if_pos c33] at H
         have LMc33 := Aside0.mk c33
         clear c33
         obtain ⟨y161,hy161⟩ : ∃ y_ : List Int,y_ = (x10_1 ++ [x11_1]) := ⟨_,rfl⟩
         replace H : (arrearsref10_Missed.l0 k1 a2 a3 t155 y161 (wrap64 (x11_1 + 1))) = some r := by first | (rw [hy161];with_reducible exact H) | (have H2_ := (Option.bind_some _ _).symm.trans H;rw [hy161];with_reducible exact H2_) | (have H2_ := (Option.bind_some _ _).symm.trans H;with_reducible exact H2_) | with_reducible exact H | (rw [hy161];exact H) | exact H
         have Ny161 := Aside0.mk hy161
         clear hy161
         have H' := Aside0.mk H
         clear H
         have p158 : 0 ≤ (x11_1 : Int) := of_decide_eq_true (by first | (with_reducible assumption) | assumption)
         have q158 : x11_1 < (t155.length : Int) := of_decide_eq_true (by first | (with_reducible assumption) | assumption)
         obtain ⟨ad158,e158,hx158_0,hx158_1,hx158_2,hx158_3⟩ := at_T31 HR156.out x11_1 p158 q158
         (try rw [← Nbq29.out] at hx158_3)
         (try rw [← Nbq29.out] at hw158_3)
         (try rw [← Nbq29.out] at A16)
         (try rw [← Nbq29.out] at A22)
         (try rw [← Nbq29.out] at A31)
         (try rw [← Nbq29.out] at A5)
         (try rw [← Nbq29.out] at A7)
         cases e158
         replace hx158_0 := (HB.out.cell (World.block_lt_of_cell? w _ hx158_0)).trans hx158_0
         replace hx158_1 := (HB.out.cell (World.block_lt_of_cell? w _ hx158_1)).trans hx158_1
         replace hx158_2 := (HB.out.cell (World.block_lt_of_cell? w _ hx158_2)).trans hx158_2
         replace hx158_3 := (HB.out.cell (World.block_lt_of_cell? w _ hx158_3)).trans hx158_3
         replace p158 := eq_true p158
         replace q158 := eq_true q158
         have p159 : 0 ≤ (x11_1 : Int) := of_decide_eq_true (by first | (with_reducible assumption) | assumption)
         have q159 : x11_1 < (t155.length : Int) := of_decide_eq_true (by first | (with_reducible assumption) | assumption)
         obtain ⟨ad159,e159,hx159_0,hx159_1,hx159_2,hx159_3⟩ := at_T31 HR156.out x11_1 p159 q159
         (try rw [← Nbq29.out] at hx159_3)
         (try rw [← Nbq29.out] at hw159_3)
         (try rw [← Nbq29.out] at A16)
         (try rw [← Nbq29.out] at A22)
         (try rw [← Nbq29.out] at A31)
         (try rw [← Nbq29.out] at A5)
         (try rw [← Nbq29.out] at A7)
         obtain rfl : ad158 = ad159 := (by injection e159)
         replace hx159_0 := (HB.out.cell (World.block_lt_of_cell? w _ hx159_0)).trans hx159_0
         replace hx159_1 := (HB.out.cell (World.block_lt_of_cell? w _ hx159_1)).trans hx159_1
         replace hx159_2 := (HB.out.cell (World.block_lt_of_cell? w _ hx159_2)).trans hx159_2
         replace hx159_3 := (HB.out.cell (World.block_lt_of_cell? w _ hx159_3)).trans hx159_3
         replace p159 := eq_true p159
         replace q159 := eq_true q159
         go_wp2_with (first | (go_at_call 36;(with_reducible refine (arrearsref10_late.calls ((rd_T31 t155 x11_1).f0) ((rd_T31 t155 x11_1).f1) ((rd_T31 t155 x11_1).f2) false a2 t160 _ A31.out).mono ?_);rintro e w34 ⟨rfl,hb⟩;have n0_ := Aside0.mk (Kd.R_below (by (with_reducible repeat (first | apply Kd.R_alloc | apply Kd.R_drewN | apply Kd.R_drew));exact HO_10.out) hb);have n1_ := Aside0.mk (blk_below (g:=gb154) (o:=.cells #[.int .i64 a1_0, .int .i64 a1_1] 24 (0,0)) (by (with_reducible repeat (first | refine blk_drewN ?_ _ | refine blk_drew ?_ | refine blk_alloc ?_ _));exact BK154.out) hb);have n2_ := Aside0.mk (below_step (by repeat (first | (with_reducible first | exact HB.out | apply below_alloc | apply pw_below_drewN | apply below_drew1 | refine below_set ?_ GE154.out) | exact HB.out)) hb);clear HO_10;clear BK154;clear HB;have HO_10 := n0_;have BK154 := n1_;have HB := n2_;clear n0_ n1_ n2_;(try clear hb);(try clear hb2);(try clear hk);(try clear hi)) | ((with_reducible refine gate_builtin (b:=.append) (xs:=#[.tmp 41, .tmp 43]) rfl ?_);at_builtin;refine Kd.R_append (Kd.int .i64) (w0:=w) w.heap.size rfl (.tmp 41) (.tmp 43) 41 3 (.int .i64 0) 8 rfl Try.underlying41 info3 rfl (by decide) (by omega) u10 x10_1 x11_1 [.int .i64 x11_1] (fun _ => True) (fun _ => False) rfl rfl ?aP (fun _ hk => hk.elim) ?aF ?aO ?aB ?aS ?aL ?_;(case aP => exact rfl);(case aB => exact (by repeat (first | (with_reducible first | exact HB.out | apply below_alloc | apply pw_below_drewN | apply below_drew1 | refine below_set ?_ GE154.out) | exact HB.out)));(case aF => exact (fun _ _ => trivial));(case aO => exact (by (with_reducible repeat (first | apply Kd.R_alloc | apply Kd.R_drewN | apply Kd.R_drew));exact HO_10.out));(case aS => exact (below_size (by repeat (first | (with_reducible first | exact HB.out | apply below_alloc | apply pw_below_drewN | apply below_drew1 | refine below_set ?_ GE154.out) | exact HB.out))));(case aL => have := LMc33.out;omega);intro v162 w35 ho hb hg hat;rw [← Ny161.out] at ho;have n0_ := Aside0.mk (blk_grown (g:=gb154) (o:=.cells #[.int .i64 a1_0, .int .i64 a1_1] 24 (0,0)) (by (with_reducible repeat (first | refine blk_drewN ?_ _ | refine blk_drew ?_ | refine blk_alloc ?_ _));exact BK154.out) hg (Kd.R_ne HO_10.out BK154.out (by decide)));have n1_ := Aside0.mk (hb);have n2_ := Aside0.mk (ho);clear BK154;clear HB;clear HO_10;have BK154 := n0_;have HB := n1_;have HO163 := n2_;clear n0_ n1_ n2_;clear ho hb hg hat))
         go_roundg k1
         case measure => have := HK1.out;omega
         case rel => exact ⟨(y161),(wrap64 (x11_1 + 1)),(by first | rfl | (simp;done) | (simp [*];done)),H',⟨by have := HK1.out;omega⟩,⟨by (with_reducible repeat (first | apply Kd.R_alloc | apply Kd.R_drewN | apply Kd.R_drew));exact HO163.out⟩,⟨by (with_reducible repeat (first | refine blk_drewN ?_ _ | refine blk_drew ?_ | refine blk_alloc ?_ _));exact BK154.out⟩,⟨by repeat (first | (with_reducible first | exact HB.out | apply below_alloc | apply pw_below_drewN | apply below_drew1 | refine below_set ?_ GE154.out) | exact HB.out)⟩⟩
        ·
         rw [if_neg c33] at H
         exact absurd H (by simp)
       ·
        rw [if_neg c32] at H
        have c32b0 : decide (a3 < t160) = false := decide_eq_false c32
        clear c32
        have H' := Aside0.mk H
        clear H
        have p158 : 0 ≤ (x11_1 : Int) := of_decide_eq_true (by first | (with_reducible assumption) | assumption)
        have q158 : x11_1 < (t155.length : Int) := of_decide_eq_true (by first | (with_reducible assumption) | assumption)
        obtain ⟨ad158,e158,hx158_0,hx158_1,hx158_2,hx158_3⟩ := at_T31 HR156.out x11_1 p158 q158
        (try rw [← Nbq29.out] at hx158_3)
        (try rw [← Nbq29.out] at hw158_3)
        (try rw [← Nbq29.out] at A16)
        (try rw [← Nbq29.out] at A22)
        (try rw [← Nbq29.out] at A31)
        (try rw [← Nbq29.out] at A5)
        (try rw [← Nbq29.out] at A7)
        cases e158
        replace hx158_0 := (HB.out.cell (World.block_lt_of_cell? w _ hx158_0)).trans hx158_0
        replace hx158_1 := (HB.out.cell (World.block_lt_of_cell? w _ hx158_1)).trans hx158_1
        replace hx158_2 := (HB.out.cell (World.block_lt_of_cell? w _ hx158_2)).trans hx158_2
        replace hx158_3 := (HB.out.cell (World.block_lt_of_cell? w _ hx158_3)).trans hx158_3
        replace p158 := eq_true p158
        replace q158 := eq_true q158
        have p159 : 0 ≤ (x11_1 : Int) := of_decide_eq_true (by first | (with_reducible assumption) | assumption)
        have q159 : x11_1 < (t155.length : Int) := of_decide_eq_true (by first | (with_reducible assumption) | assumption)
        obtain ⟨ad159,e159,hx159_0,hx159_1,hx159_2,hx159_3⟩ := at_T31 HR156.out x11_1 p159 q159
        (try rw [← Nbq29.out] at hx159_3)
        (try rw [← Nbq29.out] at hw159_3)
        (try rw [← Nbq29.out] at A16)
        (try rw [← Nbq29.out] at A22)
        (try rw [← Nbq29.out] at A31)
        (try rw [← Nbq29.out] at A5)
        (try rw [← Nbq29.out] at A7)
        obtain rfl : ad158 = ad159 := (by injection e159)
        replace hx159_0 := (HB.out.cell (World.block_lt_of_cell? w _ hx159_0)).trans hx159_0
        replace hx159_1 := (HB.out.cell (World.block_lt_of_cell? w _ hx159_1)).trans hx159_1
        replace hx159_2 := (HB.out.cell (World.block_lt_of_cell? w _ hx159_2)).trans hx159_2
        replace hx159_3 := (HB.out.cell (World.block_lt_of_cell? w _ hx159_3)).trans hx159_3
        replace p159 := eq_true p159
        replace q159 := eq_true q159
        go_wp2_with (first | (go_at_call 36;(with_reducible refine (arrearsref10_late.calls ((rd_T31 t155 x11_1).f0) ((rd_T31 t155 x11_1).f1) ((rd_T31 t155 x11_1).f2) false a2 t160 _ A31.out).mono ?_);rintro e w36 ⟨rfl,hb⟩;have n0_ := Aside0.mk (Kd.R_below (by (with_reducible repeat (first | apply Kd.R_alloc | apply Kd.R_drewN | apply Kd.R_drew));exact HO_10.out) hb);have n1_ := Aside0.mk (blk_below (g:=gb154) (o:=.cells #[.int .i64 a1_0, .int .i64 a1_1] 24 (0,0)) (by (with_reducible repeat (first | refine blk_drewN ?_ _ | refine blk_drew ?_ | refine blk_alloc ?_ _));exact BK154.out) hb);have n2_ := Aside0.mk (below_step (by repeat (first | (with_reducible first | exact HB.out | apply below_alloc | apply pw_below_drewN | apply below_drew1 | refine below_set ?_ GE154.out) | exact HB.out)) hb);clear HO_10;clear BK154;clear HB;have HO_10 := n0_;have BK154 := n1_;have HB := n2_;clear n0_ n1_ n2_;(try clear hb);(try clear hb2);(try clear hk);(try clear hi)))
        go_roundg k1
        case measure => have := HK1.out;omega
        case rel => exact ⟨(x10_1),(wrap64 (x11_1 + 1)),(by first | rfl | (simp;done) | (simp [*];done)),H',⟨by have := HK1.out;omega⟩,⟨by (with_reducible repeat (first | apply Kd.R_alloc | apply Kd.R_drewN | apply Kd.R_drew));exact HO_10.out⟩,⟨by (with_reducible repeat (first | refine blk_drewN ?_ _ | refine blk_drew ?_ | refine blk_alloc ?_ _));exact BK154.out⟩,⟨by repeat (first | (with_reducible first | exact HB.out | apply below_alloc | apply pw_below_drewN | apply below_drew1 | refine below_set ?_ GE154.out) | exact HB.out)⟩⟩
     ·
      rw [if_neg c28] at H
      exact absurd H (by simp)
    ·
     rw [if_neg c27] at H
     have c27b0 : decide (x11_1 < (t155.length : Int)) = false := decide_eq_false c27
     clear c27
     obtain rfl := Option.some.inj H
     go_wp2
     go_ret
     exact ⟨_,by first | rfl | (simp [errW_none,errW_some] <;> rfl) | (simp [*,errW_none,errW_some] <;> rfl),by (with_reducible repeat (first | apply Kd.R_alloc | apply Kd.R_drewN | apply Kd.R_drew));exact HO_10.out,by repeat (first | (with_reducible first | exact HB.out | apply below_alloc | apply pw_below_drewN | apply below_drew1 | refine below_set ?_ GE154.out) | exact HB.out)⟩

/-! ### arrearslaw10_sameRows: function 24 -/
def arrearslaw10_sameRows.l0 : Nat → List Int → List Int → Int → Option (Bool)
 | 0,_,_,_ => none
 | k + 1,x0,x1,x5 => if x5 < (x0.length : Int) then (if 0 ≤ x5 then (if x5 < (x1.length : Int) then (if (rd x0 x5) = (rd x1 x5) then (arrearslaw10_sameRows.l0 k x0 x1 (wrap64 (x5 + 1))) else (some false)) else (none)) else (none)) else (some true)
def arrearslaw10_sameRows.f (k : Nat) (l0 : List Int) (l1 : List Int) : Option (Bool) := if (l0.length : Int) = (l1.length : Int) then (arrearslaw10_sameRows.l0 k l0 l1 0) else (some false)
theorem arrearslaw10_sameRows.mono_l : ∀ k,(∀ y0 y1 y2,LeO (arrearslaw10_sameRows.l0 k y0 y1 y2) (arrearslaw10_sameRows.l0 (k + 1) y0 y1 y2))
 | 0 => fun _ _ _ r h => by simp [arrearslaw10_sameRows.l0] at h
 | k + 1 => by
  have ih0 := arrearslaw10_sameRows.mono_l k
  ·
   intro y0 y1 y2
   unfold arrearslaw10_sameRows.l0
   repeat' first
   | (with_reducible exact ih0 _ _ _)
   | (with_reducible exact LeO.refl _)
   | (with_reducible exact LeO.none _)
   | (with_reducible refine LeO.ite ?_ ?_)
   | (with_reducible refine LeO.bind ?_ (fun _ => ?_))
   | exact ih0 _ _ _
   | exact LeO.none _
   | refine LeO.ite ?_ ?_
   | refine LeO.bind ?_ (fun _ => ?_)
theorem arrearslaw10_sameRows.mono : ∀ a0 a1 k,LeO (arrearslaw10_sameRows.f k a0 a1) (arrearslaw10_sameRows.f (k + 1) a0 a1) := by
 intro a0 a1 k
 have ih0 := arrearslaw10_sameRows.mono_l k
 unfold arrearslaw10_sameRows.f
 repeat' first
   | (with_reducible exact ih0 _ _ _)
   | (with_reducible exact LeO.refl _)
   | (with_reducible exact LeO.none _)
   | (with_reducible refine LeO.ite ?_ ?_)
   | (with_reducible refine LeO.bind ?_ (fun _ => ?_))
   | exact ih0 _ _ _
   | exact LeO.none _
   | refine LeO.ite ?_ ?_
   | refine LeO.bind ?_ (fun _ => ?_)
set_option maxHeartbeats 8000000 in
set_option maxRecDepth 100000 in
theorem arrearslaw10_sameRows.calls (k : Nat) (A0 : Option Addr) (c0 : Nat) (l0 : List Int) (A1 : Option Addr) (c1 : Nat) (l1 : List Int) (r : Bool) (w : World) (hr0 : Kd.C (Kd.int .i64) w A0 l0.length l0) (hc0 : l0.length ≤ c0) (hr1 : Kd.C (Kd.int .i64) w A1 l1.length l1) (hc1 : l1.length ≤ c1) (h : arrearslaw10_sameRows.f k l0 l1 = some r) :
  Calls Try.prog 24 #[.slice A0 l0.length c0, .slice A1 l1.length c1] w fun e w' => e = .returned (.bool r) ∧ Drawn0 w w' := by
 have HR0 := Aside0.mk hr0
 have HC0 := Aside0.mk hc0
 clear hr0 hc0
 have HR1 := Aside0.mk hr1
 have HC1 := Aside0.mk hc1
 clear hr1 hc1
 have H : (if (l0.length : Int) = (l1.length : Int) then (arrearslaw10_sameRows.l0 k l0 l1 0) else (some false)) = some r := h
 clear h
 by_cases c3 : (l0.length : Int) = (l1.length : Int)
 ·
  rw [if_pos c3] at H
  have c3b0 : ((l0.length : Int) == (l1.length : Int)) = true := beq_iff_eq.mpr c3
  have c3b1 : ((l0.length : Int) != (l1.length : Int)) = false := bne_eq_false_iff_eq.mpr c3
  have c3b2 : (l0.length == l1.length) = true := by first | simpa using c3 | (simp at c3 ⊢;omega)
  clear c3
  have H' := Aside0.mk H
  clear H
  go_enter Try.func24,Try.ntmps24
  go_wp2
  repeat (go_quiet (fail);try go_wp2)
  go_loopg [5] k (fun kq v5 w' => ∃ (x5_1 : Int),v5 = .int .i64 x5_1 ∧ Aside0 (arrearslaw10_sameRows.l0 kq l0 l1 x5_1 = some r) ∧ Aside0 (kq ≤ k) ∧ Drawn0 w w')
  case atStart => exact ⟨(0),(by first | rfl | (simp;done) | (simp [*];done)),H',⟨Nat.le_refl _⟩,by repeat (first | exact Drawn0.refl _ | apply Drawn0.step)⟩
  case round =>
   clear H'
   try clear c1
   try clear c2
   try clear p2
   try clear c3
   try clear c3b0
   try clear c3b1
   try clear c3b2
   obtain ⟨x5_1,rfl,HA,HK1,⟨m1,rfl⟩⟩ := hrel
   cases gk with
   | zero => exact absurd HA.out (by simp [arrearslaw10_sameRows.l0])
   | succ k1 =>
    have H := HA.out
    clear HA
    simp only [arrearslaw10_sameRows.l0] at H
    by_cases c4 : x5_1 < (l0.length : Int)
    ·
     rw [if_pos c4] at H
     have c4b0 : decide (x5_1 < (l0.length : Int)) = true := decide_eq_true c4
     clear c4
     by_cases c5 : 0 ≤ x5_1
     ·
      rw [if_pos c5] at H
      have c5b0 : decide (0 ≤ x5_1) = true := decide_eq_true c5
      clear c5
      by_cases c6 : x5_1 < (l1.length : Int)
      ·
       rw [if_pos c6] at H
       have c6b0 : decide (x5_1 < (l1.length : Int)) = true := decide_eq_true c6
       clear c6
       by_cases c7 : (rd l0 x5_1) = (rd l1 x5_1)
       ·
        rw [if_pos c7] at H
        have c7b0 : ((rd l0 x5_1) == (rd l1 x5_1)) = true := beq_iff_eq.mpr c7
        have c7b1 : ((rd l0 x5_1) != (rd l1 x5_1)) = false := bne_eq_false_iff_eq.mpr c7
        clear c7
        have H' := Aside0.mk H
        clear H
        have p165 : 0 ≤ (x5_1 : Int) := of_decide_eq_true (by first | (with_reducible assumption) | assumption)
        have q165 : x5_1 < (l0.length : Int) := of_decide_eq_true (by first | (with_reducible assumption) | assumption)
        obtain ⟨ad165,e165,hx165_0⟩ := Kd.at_int HR0.out x5_1 p165 q165
        cases e165
        replace p165 := eq_true p165
        replace q165 := eq_true q165
        have p166 : 0 ≤ (x5_1 : Int) := of_decide_eq_true (by first | (with_reducible assumption) | assumption)
        have q166 : x5_1 < (l1.length : Int) := of_decide_eq_true (by first | (with_reducible assumption) | assumption)
        obtain ⟨ad166,e166,hx166_0⟩ := Kd.at_int HR1.out x5_1 p166 q166
        cases e166
        replace p166 := eq_true p166
        replace q166 := eq_true q166
        go_wp2
        repeat (go_quiet (fail);try go_wp2)
        go_roundg k1
        case measure => have := HK1.out;omega
        case rel => exact ⟨(wrap64 (x5_1 + 1)),(by first | rfl | (simp;done) | (simp [*];done)),H',⟨by have := HK1.out;omega⟩,by repeat (first | exact Drawn0.refl _ | apply Drawn0.step)⟩
       ·
        rw [if_neg c7] at H
        have c7b0 : ((rd l0 x5_1) == (rd l1 x5_1)) = false := beq_eq_false_iff_ne.mpr c7
        have c7b1 : ((rd l0 x5_1) != (rd l1 x5_1)) = true := bne_iff_ne.mpr c7
        obtain rfl := Option.some.inj H
        have p165 : 0 ≤ (x5_1 : Int) := of_decide_eq_true (by first | (with_reducible assumption) | assumption)
        have q165 : x5_1 < (l0.length : Int) := of_decide_eq_true (by first | (with_reducible assumption) | assumption)
        obtain ⟨ad165,e165,hx165_0⟩ := Kd.at_int HR0.out x5_1 p165 q165
        cases e165
        replace p165 := eq_true p165
        replace q165 := eq_true q165
        have p166 : 0 ≤ (x5_1 : Int) := of_decide_eq_true (by first | (with_reducible assumption) | assumption)
        have q166 : x5_1 < (l1.length : Int) := of_decide_eq_true (by first | (with_reducible assumption) | assumption)
        obtain ⟨ad166,e166,hx166_0⟩ := Kd.at_int HR1.out x5_1 p166 q166
        cases e166
        replace p166 := eq_true p166
        replace q166 := eq_true q166
        go_wp2
        repeat (go_quiet (fail);try go_wp2)
        go_ret
        exact ⟨by first | rfl | (simp;done) | (simp [*];done),by repeat (first | exact Drawn0.refl _ | apply Drawn0.step)⟩
      ·
       rw [if_neg c6] at H
       exact absurd H (by simp)
     ·
      rw [if_neg c5] at H
      exact absurd H (by simp)
    ·
     rw [if_neg c4] at H
     have c4b0 : decide (x5_1 < (l0.length : Int)) = false := decide_eq_false c4
     clear c4
     obtain rfl := Option.some.inj H
     go_wp2
     repeat (go_quiet (fail);try go_wp2)
     go_ret
     exact ⟨by first | rfl | (simp;done) | (simp [*];done),by repeat (first | exact Drawn0.refl _ | apply Drawn0.step)⟩
 ·
  rw [if_neg c3] at H
  have c3b0 : ((l0.length : Int) == (l1.length : Int)) = false := beq_eq_false_iff_ne.mpr c3
  have c3b1 : ((l0.length : Int) != (l1.length : Int)) = true := bne_iff_ne.mpr c3
  have c3b2 : (l0.length == l1.length) = false := by first | simpa using c3 | (simp at c3 ⊢;omega)
  obtain rfl := Option.some.inj H
  go_enter Try.func24,Try.ntmps24
  go_wp2
  repeat (go_quiet (fail);try go_wp2)
  go_ret
  exact ⟨by first | rfl | (simp;done) | (simp [*];done),by repeat (first | exact Drawn0.refl _ | apply Drawn0.step)⟩

end Go.Proofs.Ytncfoaglmggdhaa.Y
