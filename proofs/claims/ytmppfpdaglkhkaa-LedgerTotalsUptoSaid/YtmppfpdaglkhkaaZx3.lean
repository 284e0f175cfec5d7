import Derived.Test.YtmppfpdaglkhkaaZx3a
import Derived.Test.YtmppfpdaglkhkaaZx0
import Derived.Test.YtmppfpdaglkhkaaZx1
import Derived.Test.YtmppfpdaglkhkaaZx2
namespace Go.Proofs.Ytmppfpdaglkhkaa.Z
open Go.RowKit Go.Proofs.YtmppfpdaglkhkaaW.PrintWords Go.Proofs.YtmppfpdaglkhkaaW.PrintLast Go.Proofs.YtmppfpdaglkhkaaW.PrintMore
attribute [local go_sem] max2_int min2_int max_two min_two max_three min_three max_four min_four   -- for this text's walks alone
set_option linter.unusedVariables false
set_option linter.unusedSimpArgs false
set_option maxHeartbeats 8000000 in
set_option maxRecDepth 100000 in
theorem arrearslaw8_LedgerTotals.calls (k : Nat) (A0 : Option Addr) (c0 : Nat) (l0 : List (S32)) (r : Bool) (w : World) (hr0 : Kd.C k32 w A0 l0.length l0) (hc0 : l0.length ≤ c0) (h : arrearslaw8_LedgerTotals.f k l0 = some r) :
  Calls Try.prog 4 #[.slice A0 l0.length c0] w fun e w' => e = .returned (.bool r) ∧ Below w.heap.size w w' := by
 have hu32 := Try.underlying32
 have HR0 := Aside0.mk hr0
 have HC0 := Aside0.mk hc0
 clear hr0 hc0
 have HB := Aside0.mk (Below.refl w.heap.size w)
 have H : (if ([] : List (S32)).length + l0.length < 1466015503701 then ((some (([] : List (S32)) ++ l0 : List (S32))).bind fun y134 => (if y134.length < 1466015503701 then ((some (y134 ++ [(⟨(⟨0,0,0,0,0,(-77),0,0,0,0,0,0⟩ : S30)⟩ : S32)] : List (S32))).bind fun y138 => (if 0 ≤ (l0.length : Int) then (if (l0.length : Int) ≤ (y138.length : Int) then ((some (y138.take ((l0.length : Int) : Int).toNat : List (S32))).bind fun y141 => ((ledger_Total.f k y141).bind fun bt145 => ((arrearsref8_Total.f k l0).bind fun bt159 => (arrearslaw8_LedgerTotals.l0 k l0 y138 y141 bt145.2.2.2.2.2.2.2.2.2.2.2.2 bt159.2.2.2.2.2.2.2.2.2.2.2.2 0 0 0 0 0 0 (-77) 0 0 0 0 0 0 bt145.1 bt145.2.1 bt145.2.2.1 bt145.2.2.2.1 bt145.2.2.2.2.1 bt145.2.2.2.2.2.1 bt145.2.2.2.2.2.2.1 bt145.2.2.2.2.2.2.2.1 bt145.2.2.2.2.2.2.2.2.1 bt145.2.2.2.2.2.2.2.2.2.1 bt145.2.2.2.2.2.2.2.2.2.2.1 bt145.2.2.2.2.2.2.2.2.2.2.2.1 bt159.1 bt159.2.1 bt159.2.2.1 bt159.2.2.2.1 bt159.2.2.2.2.1 bt159.2.2.2.2.2.1 bt159.2.2.2.2.2.2.1 bt159.2.2.2.2.2.2.2.1 bt159.2.2.2.2.2.2.2.2.1 bt159.2.2.2.2.2.2.2.2.2.1 bt159.2.2.2.2.2.2.2.2.2.2.1 bt159.2.2.2.2.2.2.2.2.2.2.2.1)))) else (none)) else (none))) else (none))) else (none)) = some r := h
 clear h
 by_cases c2 : ([] : List (S32)).length + l0.length < 1466015503701
 ·
  rw [if_pos c2] at H
  have LMc2 := Aside0.mk c2
  clear c2
  obtain ⟨y134,hy134⟩ : ∃ y_ : List (S32),y_ = (([] : List (S32)) ++ l0) := ⟨_,rfl⟩
  replace H : (if y134.length < 1466015503701 then ((some (y134 ++ [(⟨(⟨0,0,0,0,0,(-77),0,0,0,0,0,0⟩ : S30)⟩ : S32)] : List (S32))).bind fun y138 => (if 0 ≤ (l0.length : Int) then (if (l0.length : Int) ≤ (y138.length : Int) then ((some (y138.take ((l0.length : Int) : Int).toNat : List (S32))).bind fun y141 => ((ledger_Total.f k y141).bind fun bt145 => ((arrearsref8_Total.f k l0).bind fun bt159 => (arrearslaw8_LedgerTotals.l0 k l0 y138 y141 bt145.2.2.2.2.2.2.2.2.2.2.2.2 bt159.2.2.2.2.2.2.2.2.2.2.2.2 0 0 0 0 0 0 (-77) 0 0 0 0 0 0 bt145.1 bt145.2.1 bt145.2.2.1 bt145.2.2.2.1 bt145.2.2.2.2.1 bt145.2.2.2.2.2.1 bt145.2.2.2.2.2.2.1 bt145.2.2.2.2.2.2.2.1 bt145.2.2.2.2.2.2.2.2.1 bt145.2.2.2.2.2.2.2.2.2.1 bt145.2.2.2.2.2.2.2.2.2.2.1 bt145.2.2.2.2.2.2.2.2.2.2.2.1 bt159.1 bt159.2.1 bt159.2.2.1 bt159.2.2.2.1 bt159.2.2.2.2.1 bt159.2.2.2.2.2.1 bt159.2.2.2.2.2.2.1 bt159.2.2.2.2.2.2.2.1 bt159.2.2.2.2.2.2.2.2.1 bt159.2.2.2.2.2.2.2.2.2.1 bt159.2.2.2.2.2.2.2.2.2.2.1 bt159.2.2.2.2.2.2.2.2.2.2.2.1)))) else (none)) else (none))) else (none)) = some r := by first | (rw [hy134];with_reducible exact H) | (have H2_ := (Option.bind_some _ _).symm.trans H;rw [hy134];with_reducible exact H2_) | (have H2_ := (Option.bind_some _ _).symm.trans H;with_reducible exact H2_) | with_reducible exact H | (rw [hy134];exact H) | exact H
  have Ny134 := Aside0.mk hy134
  clear hy134
  by_cases c3 : y134.length < 1466015503701
  ·
   rw [if_pos c3] at H
   have LMc3 := Aside0.mk c3
   clear c3
   obtain ⟨y138,hy138⟩ : ∃ y_ : List (S32),y_ = (y134 ++ [(⟨(⟨0,0,0,0,0,(-77),0,0,0,0,0,0⟩ : S30)⟩ : S32)]) := ⟨_,rfl⟩
   replace H : (if 0 ≤ (l0.length : Int) then (if (l0.length : Int) ≤ (y138.length : Int) then ((some (y138.take ((l0.length : Int) : Int).toNat : List (S32))).bind fun y141 => ((ledger_Total.f k y141).bind fun bt145 => ((arrearsref8_Total.f k l0).bind fun bt159 => (arrearslaw8_LedgerTotals.l0 k l0 y138 y141 bt145.2.2.2.2.2.2.2.2.2.2.2.2 bt159.2.2.2.2.2.2.2.2.2.2.2.2 0 0 0 0 0 0 (-77) 0 0 0 0 0 0 bt145.1 bt145.2.1 bt145.2.2.1 bt145.2.2.2.1 bt145.2.2.2.2.1 bt145.2.2.2.2.2.1 bt145.2.2.2.2.2.2.1 bt145.2.2.2.2.2.2.2.1 bt145.2.2.2.2.2.2.2.2.1 bt145.2.2.2.2.2.2.2.2.2.1 bt145.2.2.2.2.2.2.2.2.2.2.1 bt145.2.2.2.2.2.2.2.2.2.2.2.1 bt159.1 bt159.2.1 bt159.2.2.1 bt159.2.2.2.1 bt159.2.2.2.2.1 bt159.2.2.2.2.2.1 bt159.2.2.2.2.2.2.1 bt159.2.2.2.2.2.2.2.1 bt159.2.2.2.2.2.2.2.2.1 bt159.2.2.2.2.2.2.2.2.2.1 bt159.2.2.2.2.2.2.2.2.2.2.1 bt159.2.2.2.2.2.2.2.2.2.2.2.1)))) else (none)) else (none)) = some r := by first | (rw [hy138];with_reducible exact H) | (have H2_ := (Option.bind_some _ _).symm.trans H;rw [hy138];with_reducible exact H2_) | (have H2_ := (Option.bind_some _ _).symm.trans H;with_reducible exact H2_) | with_reducible exact H | (rw [hy138];exact H) | exact H
   have Ny138 := Aside0.mk hy138
   clear hy138
   by_cases c4 : 0 ≤ (l0.length : Int)
   ·
    rw [if_pos c4] at H
    have c4b0 := eq_true c4
    have c4b1 : decide (0 ≤ (l0.length : Int)) = true := decide_eq_true c4
    clear c4
    by_cases c5 : (l0.length : Int) ≤ (y138.length : Int)
    ·
     rw [if_pos c5] at H
     have c5b0 := eq_true c5
     have c5b1 : decide ((l0.length : Int) ≤ (y138.length : Int)) = true := decide_eq_true c5
     clear c5
     obtain ⟨y141,hy141⟩ : ∃ y_ : List (S32),y_ = (y138.take ((l0.length : Int) : Int).toNat) := ⟨_,rfl⟩
     replace H : ((ledger_Total.f k y141).bind fun bt145 => ((arrearsref8_Total.f k l0).bind fun bt159 => (arrearslaw8_LedgerTotals.l0 k l0 y138 y141 bt145.2.2.2.2.2.2.2.2.2.2.2.2 bt159.2.2.2.2.2.2.2.2.2.2.2.2 0 0 0 0 0 0 (-77) 0 0 0 0 0 0 bt145.1 bt145.2.1 bt145.2.2.1 bt145.2.2.2.1 bt145.2.2.2.2.1 bt145.2.2.2.2.2.1 bt145.2.2.2.2.2.2.1 bt145.2.2.2.2.2.2.2.1 bt145.2.2.2.2.2.2.2.2.1 bt145.2.2.2.2.2.2.2.2.2.1 bt145.2.2.2.2.2.2.2.2.2.2.1 bt145.2.2.2.2.2.2.2.2.2.2.2.1 bt159.1 bt159.2.1 bt159.2.2.1 bt159.2.2.2.1 bt159.2.2.2.2.1 bt159.2.2.2.2.2.1 bt159.2.2.2.2.2.2.1 bt159.2.2.2.2.2.2.2.1 bt159.2.2.2.2.2.2.2.2.1 bt159.2.2.2.2.2.2.2.2.2.1 bt159.2.2.2.2.2.2.2.2.2.2.1 bt159.2.2.2.2.2.2.2.2.2.2.2.1))) = some r := by first | (rw [hy141];with_reducible exact H) | (have H2_ := (Option.bind_some _ _).symm.trans H;rw [hy141];with_reducible exact H2_) | (have H2_ := (Option.bind_some _ _).symm.trans H;with_reducible exact H2_) | with_reducible exact H | (rw [hy141];exact H) | exact H
     have Ny141 := Aside0.mk hy141
     clear hy141
     replace H := Option.bind_eq_some_iff.mp H
     obtain ⟨⟨t145,t146,t147,t148,t149,t150,t151,t152,t153,t154,t155,t156,t157⟩,A60,H⟩ := H
     replace H : ((arrearsref8_Total.f k l0).bind fun bt159 => (arrearslaw8_LedgerTotals.l0 k l0 y138 y141 t157 bt159.2.2.2.2.2.2.2.2.2.2.2.2 0 0 0 0 0 0 (-77) 0 0 0 0 0 0 t145 t146 t147 t148 t149 t150 t151 t152 t153 t154 t155 t156 bt159.1 bt159.2.1 bt159.2.2.1 bt159.2.2.2.1 bt159.2.2.2.2.1 bt159.2.2.2.2.2.1 bt159.2.2.2.2.2.2.1 bt159.2.2.2.2.2.2.2.1 bt159.2.2.2.2.2.2.2.2.1 bt159.2.2.2.2.2.2.2.2.2.1 bt159.2.2.2.2.2.2.2.2.2.2.1 bt159.2.2.2.2.2.2.2.2.2.2.2.1)) = some r := H
     have A6 := Aside0.mk A60
     clear A60
     replace H := Option.bind_eq_some_iff.mp H
     obtain ⟨⟨t159,t160,t161,t162,t163,t164,t165,t166,t167,t168,t169,t170,t171⟩,A70,H⟩ := H
     replace H : (arrearslaw8_LedgerTotals.l0 k l0 y138 y141 t157 t171 0 0 0 0 0 0 (-77) 0 0 0 0 0 0 t145 t146 t147 t148 t149 t150 t151 t152 t153 t154 t155 t156 t159 t160 t161 t162 t163 t164 t165 t166 t167 t168 t169 t170) = some r := H
     have A7 := Aside0.mk A70
     clear A70
     have H' := Aside0.mk H
     clear H
     go_enter Try.func4,Try.ntmps4
     go_wp2_with (first | ((with_reducible refine gate_builtin (b:=.append) (xs:=#[.tmp 13, .tmp 14]) rfl ?_);(try (refine gate_guard (by rfl) ?_;dsimp only));at_builtin;refine Kd.R_append_rows k32 (w0:=w) w.heap.size rfl (.tmp 13) (.tmp 14) 29 32 (.agg #[(.int .i64 0),(.int .i64 0),(.int .i64 0),(.int .i64 0),(.int .i64 0),(.int .i64 0),(.int .i64 0),(.int .i64 0),(.int .i64 0),(.int .i64 0),(.int .i64 0),(.int .i64 0)]) 96 rfl Try.underlying29 info32 rfl (by decide) (by omega) (.slice none 0 0) ([] : List (S32)) l0 _ _ _ (fun _ => True) (fun _ => False) rfl rfl ?aO ?aR (fun _ _ h => h) (fun _ h => h.elim) ?aF ?aB ?aS ?aL ?_;(case aR => repeat (first | exact HR0.out | (with_reducible refine Kd.C_alloc ?_ _) | (with_reducible refine Kd.C_drewN ?_ _) | (with_reducible refine Kd.C_drew ?_)));(case aB => exact (by repeat (first | (with_reducible first | exact HB.out | apply below_alloc | apply pw_below_drewN | apply below_drew1) | exact HB.out)));(case aF => exact (fun _ _ => trivial));(case aO => exact ((Kd.R_nil _ _ _ _ (fun _ => True))));(case aS => exact (below_size (by repeat (first | (with_reducible first | exact HB.out | apply below_alloc | apply pw_below_drewN | apply below_drew1) | exact HB.out))));(case aL => have := LMc2.out;omega);intro v135 w8 ho hb hg hat;rw [← Ny134.out] at ho;have n0_ := Aside0.mk (hb);have n1_ := Aside0.mk (ho);clear HB;have HB := n0_;have HO136 := n1_;clear n0_ n1_;clear ho hb hg hat) | ((with_reducible refine gate_dst (N:=4) rfl ?_);(try (refine gate_guard (by rfl) ?_;dsimp only));refine box_event ?hg (N:=4) ?hd (cs:=#[.int .i64 0, .int .i64 0, .int .i64 0, .int .i64 0, .int .i64 0, .int .i64 0, .int .i64 0, .int .i64 0, .int .i64 0, .int .i64 0, .int .i64 0, .int .i64 0]) (t:=32) ?hr ?_;(case hd => rfl);(case hg => rfl);(case hr => first | (go_simp;done) | (go_simp;rfl));intro gb137 hg w9 hbox hb;have n0_ := Aside0.mk (Kd.R_below (Kd.R_elderB (by (with_reducible repeat (first | apply Kd.R_alloc | apply Kd.R_drewN | apply Kd.R_drew));exact HO136.out) gb137 (Nat.le_of_eq hg.symm)) hb);have n1_ := Aside0.mk (below_step (by repeat (first | (with_reducible first | exact HB.out | apply below_alloc | apply pw_below_drewN | apply below_drew1) | exact HB.out)) hb);have n2_ := Aside0.mk (hbox);have n3_ := Aside0.mk ((by rw [hg];exact (below_size (by repeat (first | (with_reducible first | exact HB.out | apply below_alloc | apply pw_below_drewN | apply below_drew1) | exact HB.out))) : w.heap.size ≤ gb137));have n4_ := Aside0.mk ((by rw [hg];exact (below_size (by repeat (first | (with_reducible first | exact HB.out | apply below_alloc | apply pw_below_drewN | apply below_drew1) | exact HB.out))) : w.heap.size ≤ gb137));clear HO136;clear HB;have HO136 := n0_;have HB := n1_;have BK137 := n2_;have GW137 := n3_;have GE137 := n4_;clear n0_ n1_ n2_ n3_ n4_;clear hb hbox hg;have hcz10_0 : w9.cell? ⟨gb137,0,none⟩ = some (.int .i64 0) := (blk_cell BK137.out 0).trans rfl;have hcz10_1 : w9.cell? ⟨gb137,1,none⟩ = some (.int .i64 0) := (blk_cell BK137.out 1).trans rfl;have hcz10_2 : w9.cell? ⟨gb137,2,none⟩ = some (.int .i64 0) := (blk_cell BK137.out 2).trans rfl;have hcz10_3 : w9.cell? ⟨gb137,3,none⟩ = some (.int .i64 0) := (blk_cell BK137.out 3).trans rfl;have hcz10_4 : w9.cell? ⟨gb137,4,none⟩ = some (.int .i64 0) := (blk_cell BK137.out 4).trans rfl;have hcz10_5 : w9.cell? ⟨gb137,5,none⟩ = some (.int .i64 0) := (blk_cell BK137.out 5).trans rfl;have hcz10_6 : w9.cell? ⟨gb137,6,none⟩ = some (.int .i64 0) := (blk_cell BK137.out 6).trans rfl;have hcz10_7 : w9.cell? ⟨gb137,7,none⟩ = some (.int .i64 0) := (blk_cell BK137.out 7).trans rfl;have hcz10_8 : w9.cell? ⟨gb137,8,none⟩ = some (.int .i64 0) := (blk_cell BK137.out 8).trans rfl;have hcz10_9 : w9.cell? ⟨gb137,9,none⟩ = some (.int .i64 0) := (blk_cell BK137.out 9).trans rfl;have hcz10_10 : w9.cell? ⟨gb137,10,none⟩ = some (.int .i64 0) := (blk_cell BK137.out 10).trans rfl;have hcz10_11 : w9.cell? ⟨gb137,11,none⟩ = some (.int .i64 0) := (blk_cell BK137.out 11).trans rfl;have hfz10_0 := blk_frozen BK137.out 0;have hfz10_1 := blk_frozen BK137.out 1;have hfz10_2 := blk_frozen BK137.out 2;have hfz10_3 := blk_frozen BK137.out 3;have hfz10_4 := blk_frozen BK137.out 4;have hfz10_5 := blk_frozen BK137.out 5;have hfz10_6 := blk_frozen BK137.out 6;have hfz10_7 := blk_frozen BK137.out 7;have hfz10_8 := blk_frozen BK137.out 8;have hfz10_9 := blk_frozen BK137.out 9;have hfz10_10 := blk_frozen BK137.out 10;have hfz10_11 := blk_frozen BK137.out 11) | ((with_reducible refine gate_store (t:=32) (p:=4) rfl ?_);refine store_event (t:=32) (p:=4) (v:=?vo_w11) (w1:=((((((((((((w9.setCell ⟨gb137,0,none⟩ (.int .i64 0)).setCell ⟨gb137,1,none⟩ (.int .i64 0)).setCell ⟨gb137,2,none⟩ (.int .i64 0)).setCell ⟨gb137,3,none⟩ (.int .i64 0)).setCell ⟨gb137,4,none⟩ (.int .i64 0)).setCell ⟨gb137,5,none⟩ (.int .i64 0)).setCell ⟨gb137,6,none⟩ (.int .i64 0)).setCell ⟨gb137,7,none⟩ (.int .i64 0)).setCell ⟨gb137,8,none⟩ (.int .i64 0)).setCell ⟨gb137,9,none⟩ (.int .i64 0)).setCell ⟨gb137,10,none⟩ (.int .i64 0)).setCell ⟨gb137,11,none⟩ (.int .i64 0))) ?hg ?ho ?hn ?hr ?_;(case ho => rfl);(case hg => rfl);(case hn => rfl);(case hr => first | (go_simp;done) | (go_simp;rfl));intro w11 hw;have n0_ : Aside0 (Kd.R k32 32 w11 w.heap.size (fun k_ => k_ ≠ gb137) v135 y134) := ⟨(by rw [hw];exact (by (with_reducible repeat (first | apply Kd.R_alloc | apply Kd.R_drewN | apply Kd.R_drew));exact Kd.R_mono (Kd.R_far (p:=⟨gb137,11,none⟩) (Kd.R_far (p:=⟨gb137,10,none⟩) (Kd.R_far (p:=⟨gb137,9,none⟩) (Kd.R_far (p:=⟨gb137,8,none⟩) (Kd.R_far (p:=⟨gb137,7,none⟩) (Kd.R_far (p:=⟨gb137,6,none⟩) (Kd.R_far (p:=⟨gb137,5,none⟩) (Kd.R_far (p:=⟨gb137,4,none⟩) (Kd.R_far (p:=⟨gb137,3,none⟩) (Kd.R_far (p:=⟨gb137,2,none⟩) (Kd.R_far (p:=⟨gb137,1,none⟩) (Kd.R_far (p:=⟨gb137,0,none⟩) (Kd.R_mono HO136.out (fun k_ hk => (⟨hk,hk.2⟩ : _ ∧ k_ ≠ gb137))) (fun _ hk => hk.2) (.int .i64 0)) (fun _ hk => hk.2) (.int .i64 0)) (fun _ hk => hk.2) (.int .i64 0)) (fun _ hk => hk.2) (.int .i64 0)) (fun _ hk => hk.2) (.int .i64 0)) (fun _ hk => hk.2) (.int .i64 0)) (fun _ hk => hk.2) (.int .i64 0)) (fun _ hk => hk.2) (.int .i64 0)) (fun _ hk => hk.2) (.int .i64 0)) (fun _ hk => hk.2) (.int .i64 0)) (fun _ hk => hk.2) (.int .i64 0)) (fun _ hk => hk.2) (.int .i64 0)) (fun _ hk => hk.1.2)))⟩;have n1_ : Aside0 (w11.heap[gb137]? = some (.cells #[.int .i64 0, .int .i64 0, .int .i64 0, .int .i64 0, .int .i64 0, .int .i64 0, .int .i64 0, .int .i64 0, .int .i64 0, .int .i64 0, .int .i64 0, .int .i64 0] 32 (0,0))) := ⟨(by rw [hw];exact (by (with_reducible repeat (first | refine blk_drewN ?_ _ | refine blk_drew ?_ | refine blk_alloc ?_ _));refine blk_put (cs:=#[.int .i64 0, .int .i64 0, .int .i64 0, .int .i64 0, .int .i64 0, .int .i64 0, .int .i64 0, .int .i64 0, .int .i64 0, .int .i64 0, .int .i64 0, .int .i64 0]) ?_ 11 _ rfl;(with_reducible repeat (first | refine blk_drewN ?_ _ | refine blk_drew ?_ | refine blk_alloc ?_ _));refine blk_put (cs:=#[.int .i64 0, .int .i64 0, .int .i64 0, .int .i64 0, .int .i64 0, .int .i64 0, .int .i64 0, .int .i64 0, .int .i64 0, .int .i64 0, .int .i64 0, .int .i64 0]) ?_ 10 _ rfl;(with_reducible repeat (first | refine blk_drewN ?_ _ | refine blk_drew ?_ | refine blk_alloc ?_ _));refine blk_put (cs:=#[.int .i64 0, .int .i64 0, .int .i64 0, .int .i64 0, .int .i64 0, .int .i64 0, .int .i64 0, .int .i64 0, .int .i64 0, .int .i64 0, .int .i64 0, .int .i64 0]) ?_ 9 _ rfl;(with_reducible repeat (first | refine blk_drewN ?_ _ | refine blk_drew ?_ | refine blk_alloc ?_ _));refine blk_put (cs:=#[.int .i64 0, .int .i64 0, .int .i64 0, .int .i64 0, .int .i64 0, .int .i64 0, .int .i64 0, .int .i64 0, .int .i64 0, .int .i64 0, .int .i64 0, .int .i64 0]) ?_ 8 _ rfl;(with_reducible repeat (first | refine blk_drewN ?_ _ | refine blk_drew ?_ | refine blk_alloc ?_ _));refine blk_put (cs:=#[.int .i64 0, .int .i64 0, .int .i64 0, .int .i64 0, .int .i64 0, .int .i64 0, .int .i64 0, .int .i64 0, .int .i64 0, .int .i64 0, .int .i64 0, .int .i64 0]) ?_ 7 _ rfl;(with_reducible repeat (first | refine blk_drewN ?_ _ | refine blk_drew ?_ | refine blk_alloc ?_ _));refine blk_put (cs:=#[.int .i64 0, .int .i64 0, .int .i64 0, .int .i64 0, .int .i64 0, .int .i64 0, .int .i64 0, .int .i64 0, .int .i64 0, .int .i64 0, .int .i64 0, .int .i64 0]) ?_ 6 _ rfl;(with_reducible repeat (first | refine blk_drewN ?_ _ | refine blk_drew ?_ | refine blk_alloc ?_ _));refine blk_put (cs:=#[.int .i64 0, .int .i64 0, .int .i64 0, .int .i64 0, .int .i64 0, .int .i64 0, .int .i64 0, .int .i64 0, .int .i64 0, .int .i64 0, .int .i64 0, .int .i64 0]) ?_ 5 _ rfl;(with_reducible repeat (first | refine blk_drewN ?_ _ | refine blk_drew ?_ | refine blk_alloc ?_ _));refine blk_put (cs:=#[.int .i64 0, .int .i64 0, .int .i64 0, .int .i64 0, .int .i64 0, .int .i64 0, .int .i64 0, .int .i64 0, .int .i64 0, .int .i64 0, .int .i64 0, .int .i64 0]) ?_ 4 _ rfl;(with_reducible repeat (first | refine blk_drewN ?_ _ | refine blk_drew ?_ | refine blk_alloc ?_ _));refine blk_put (cs:=#[.int .i64 0, .int .i64 0, .int .i64 0, .int .i64 0, .int .i64 0, .int .i64 0, .int .i64 0, .int .i64 0, .int .i64 0, .int .i64 0, .int .i64 0, .int .i64 0]) ?_ 3 _ rfl;(with_reducible repeat (first | refine blk_drewN ?_ _ | refine blk_drew ?_ | refine blk_alloc ?_ _));refine blk_put (cs:=#[.int .i64 0, .int .i64 0, .int .i64 0, .int .i64 0, .int .i64 0, .int .i64 0, .int .i64 0, .int .i64 0, .int .i64 0, .int .i64 0, .int .i64 0, .int .i64 0]) ?_ 2 _ rfl;(with_reducible repeat (first | refine blk_drewN ?_ _ | refine blk_drew ?_ | refine blk_alloc ?_ _));refine blk_put (cs:=#[.int .i64 0, .int .i64 0, .int .i64 0, .int .i64 0, .int .i64 0, .int .i64 0, .int .i64 0, .int .i64 0, .int .i64 0, .int .i64 0, .int .i64 0, .int .i64 0]) ?_ 1 _ rfl;(with_reducible repeat (first | refine blk_drewN ?_ _ | refine blk_drew ?_ | refine blk_alloc ?_ _));refine blk_put (cs:=#[.int .i64 0, .int .i64 0, .int .i64 0, .int .i64 0, .int .i64 0, .int .i64 0, .int .i64 0, .int .i64 0, .int .i64 0, .int .i64 0, .int .i64 0, .int .i64 0]) ?_ 0 _ rfl;(with_reducible repeat (first | refine blk_drewN ?_ _ | refine blk_drew ?_ | refine blk_alloc ?_ _));exact BK137.out))⟩;have n2_ : Aside0 (Below w.heap.size w w11) := ⟨(by rw [hw];exact (by repeat (first | (with_reducible first | exact HB.out | apply below_alloc | apply pw_below_drewN | apply below_drew1 | refine below_set ?_ GE137.out) | exact HB.out)))⟩;clear hw;clear HO136;clear BK137;clear HB;have HO136 := n0_;have BK137 := n1_;have HB := n2_;clear n0_ n1_ n2_;have hcz12_0 : w11.cell? ⟨gb137,0,none⟩ = some (.int .i64 0) := (blk_cell BK137.out 0).trans rfl;have hcz12_1 : w11.cell? ⟨gb137,1,none⟩ = some (.int .i64 0) := (blk_cell BK137.out 1).trans rfl;have hcz12_2 : w11.cell? ⟨gb137,2,none⟩ = some (.int .i64 0) := (blk_cell BK137.out 2).trans rfl;have hcz12_3 : w11.cell? ⟨gb137,3,none⟩ = some (.int .i64 0) := (blk_cell BK137.out 3).trans rfl;have hcz12_4 : w11.cell? ⟨gb137,4,none⟩ = some (.int .i64 0) := (blk_cell BK137.out 4).trans rfl;have hcz12_5 : w11.cell? ⟨gb137,5,none⟩ = some (.int .i64 0) := (blk_cell BK137.out 5).trans rfl;have hcz12_6 : w11.cell? ⟨gb137,6,none⟩ = some (.int .i64 0) := (blk_cell BK137.out 6).trans rfl;have hcz12_7 : w11.cell? ⟨gb137,7,none⟩ = some (.int .i64 0) := (blk_cell BK137.out 7).trans rfl;have hcz12_8 : w11.cell? ⟨gb137,8,none⟩ = some (.int .i64 0) := (blk_cell BK137.out 8).trans rfl;have hcz12_9 : w11.cell? ⟨gb137,9,none⟩ = some (.int .i64 0) := (blk_cell BK137.out 9).trans rfl;have hcz12_10 : w11.cell? ⟨gb137,10,none⟩ = some (.int .i64 0) := (blk_cell BK137.out 10).trans rfl;have hcz12_11 : w11.cell? ⟨gb137,11,none⟩ = some (.int .i64 0) := (blk_cell BK137.out 11).trans rfl;have hfz12_0 := blk_frozen BK137.out 0;have hfz12_1 := blk_frozen BK137.out 1;have hfz12_2 := blk_frozen BK137.out 2;have hfz12_3 := blk_frozen BK137.out 3;have hfz12_4 := blk_frozen BK137.out 4;have hfz12_5 := blk_frozen BK137.out 5;have hfz12_6 := blk_frozen BK137.out 6;have hfz12_7 := blk_frozen BK137.out 7;have hfz12_8 := blk_frozen BK137.out 8;have hfz12_9 := blk_frozen BK137.out 9;have hfz12_10 := blk_frozen BK137.out 10;have hfz12_11 := blk_frozen BK137.out 11) | ((with_reducible refine gate_builtin (b:=.append) (xs:=#[.tmp 19, .tmp 21]) rfl ?_);(try (refine gate_guard (by rfl) ?_;dsimp only));at_builtin;refine Kd.R_append k32 (w0:=w) w.heap.size rfl (.tmp 19) (.tmp 21) 29 32 (.agg #[(.int .i64 0),(.int .i64 0),(.int .i64 0),(.int .i64 0),(.int .i64 0),(.int .i64 0),(.int .i64 0),(.int .i64 0),(.int .i64 0),(.int .i64 0),(.int .i64 0),(.int .i64 0)]) 96 rfl Try.underlying29 info32 rfl (by decide) (by omega) v135 y134 (⟨(⟨0,0,0,0,0,(-77),0,0,0,0,0,0⟩ : S30)⟩ : S32) [.int .i64 0, .int .i64 0, .int .i64 0, .int .i64 0, .int .i64 0, .int .i64 (-77), .int .i64 0, .int .i64 0, .int .i64 0, .int .i64 0, .int .i64 0, .int .i64 0] (fun k_ => k_ ≠ gb137) (fun _ => False) rfl (by first | (go_simp;done) | (go_simp;rfl)) ?aP (fun _ hk => hk.elim) ?aF ?aO ?aB ?aS ?aL ?_;(case aP => exact k32_mkM _ _ _ (⟨(⟨0,0,0,0,0,(-77),0,0,0,0,0,0⟩ : S30)⟩ : S32));(case aB => exact (by repeat (first | (with_reducible first | exact HB.out | apply below_alloc | apply pw_below_drewN | apply below_drew1 | refine below_set ?_ GE137.out) | exact HB.out)));(case aF => exact (fun k_ hk => Kd.freshB (g:=gb137) (o:=.cells #[.int .i64 0, .int .i64 0, .int .i64 0, .int .i64 0, .int .i64 0, .int .i64 (-77), .int .i64 0, .int .i64 0, .int .i64 0, .int .i64 0, .int .i64 0, .int .i64 0] 32 (0,0)) (by (with_reducible repeat (first | refine blk_drewN ?_ _ | refine blk_drew ?_ | refine blk_alloc ?_ _));refine blk_put (cs:=#[.int .i64 0, .int .i64 0, .int .i64 0, .int .i64 0, .int .i64 0, .int .i64 0, .int .i64 0, .int .i64 0, .int .i64 0, .int .i64 0, .int .i64 0, .int .i64 0]) ?_ 5 _ rfl;(with_reducible repeat (first | refine blk_drewN ?_ _ | refine blk_drew ?_ | refine blk_alloc ?_ _));exact BK137.out) k_ hk));(case aO => exact (by (with_reducible repeat (first | apply Kd.R_alloc | apply Kd.R_drewN | apply Kd.R_drew));exact Kd.R_mono (Kd.R_far (p:=⟨gb137,5,none⟩) (Kd.R_mono HO136.out (fun k_ hk => (⟨hk,hk⟩ : _ ∧ k_ ≠ gb137))) (fun _ hk => hk.2) (.int .i64 (-77))) (fun _ hk => hk.1)));(case aS => exact (below_size (by repeat (first | (with_reducible first | exact HB.out | apply below_alloc | apply pw_below_drewN | apply below_drew1 | refine below_set ?_ GE137.out) | exact HB.out))));(case aL => have := LMc3.out;omega);intro v139 w13 ho hb hg hat;rw [← Ny138.out] at ho;have n0_ := Aside0.mk (blk_grown (g:=gb137) (o:=.cells #[.int .i64 0, .int .i64 0, .int .i64 0, .int .i64 0, .int .i64 0, .int .i64 (-77), .int .i64 0, .int .i64 0, .int .i64 0, .int .i64 0, .int .i64 0, .int .i64 0] 32 (0,0)) (by (with_reducible repeat (first | refine blk_drewN ?_ _ | refine blk_drew ?_ | refine blk_alloc ?_ _));refine blk_put (cs:=#[.int .i64 0, .int .i64 0, .int .i64 0, .int .i64 0, .int .i64 0, .int .i64 0, .int .i64 0, .int .i64 0, .int .i64 0, .int .i64 0, .int .i64 0, .int .i64 0]) ?_ 5 _ rfl;(with_reducible repeat (first | refine blk_drewN ?_ _ | refine blk_drew ?_ | refine blk_alloc ?_ _));exact BK137.out) hg (Kd.R_away HO136.out (fun _ hk => hk)));have n1_ := Aside0.mk (hb);have n2_ := Aside0.mk (ho);clear BK137;clear HB;clear HO136;have BK137 := n0_;have HB := n1_;have HO140 := n2_;clear n0_ n1_ n2_;clear ho hb hg hat;obtain ⟨Ao15,co15,eo15⟩ := Kd.R_slice HO140.out;subst eo15;have q14 : ((l0.length : Int) : Int) ≤ ((y138.length : Int) : Int) := of_decide_eq_true (by first | (with_reducible assumption) | assumption);obtain ⟨i014,hi014,_,hsz14,_⟩ := info_parts info32;have hroom14 : y138.length ≤ co15 := (Kd.R_reads' HO140.out).2.1;have hC14 : Kd.C k32 _ Ao15 y138.length y138 := (Kd.R_reads' HO140.out).2.2;have hcut14 := cut_to (P:=Try.prog) 29 32 .i64 Try.underlying29 hi014 Ao15 y138.length co15 (l0.length : Int) (of_decide_eq_true (by first | (with_reducible assumption) | assumption)) q14 hroom14;have hr14 := Kd.C_take (m:=((l0.length : Int) : Int).toNat) hC14 (by omega);have hy14 : y141.length = ((l0.length : Int) : Int).toNat := (by rw [Ny141.out,List.length_take];omega);rw [← Ny141.out] at hr14;rw [← hy14] at hcut14;have HR144 := Aside0.mk hr14;have HC144 := Aside0.mk (show y141.length ≤ co15 from by omega);clear hr14 hC14 hroom14 hi014 hsz14;have KY14 := Aside0.mk hy14;clear hy14;have KL14 := Aside0.mk (show ((l0.length : Int) : Int).toNat ≤ y138.length from by omega);replace q14 := eq_true q14) | ((with_reducible refine gate_callee (f:=14) rfl ?_);refine goesL_ (some 29) rfl rfl Try.func14 (by kernel_rfl) rfl #[.slice Ao15 y141.length co15] rfl (by (try simp only [List.map_toArray,List.map_cons,List.map_nil]);first | done | rfl | (simp only [List.length_drop,List.length_take];rfl)) ?_;(with_reducible refine (ledger_Total.calls k _ _ y141 t145 t146 t147 t148 t149 t150 t151 t152 t153 t154 t155 t156 t157 _ ?side1 ?side2 A6.out).mono ?_);(case side1 => repeat (first | exact (by repeat (first | (with_reducible exact HR144.out) | (with_reducible refine Kd.C_alloc ?_ _) | (with_reducible refine Kd.C_drewN ?_ _) | (with_reducible refine Kd.C_drew ?_) | exact HR144.out)) | (with_reducible refine Kd.C_alloc ?_ _) | (with_reducible refine Kd.C_drewN ?_ _) | (with_reducible refine Kd.C_drew ?_)));(case side2 => exact HC144.out);rintro e w16 ⟨rfl,hb⟩;refine ⟨_,rfl,?_⟩;have n0_ := Aside0.mk (Kd.R_below (by (with_reducible repeat (first | apply Kd.R_alloc | apply Kd.R_drewN | apply Kd.R_drew));exact HO140.out) hb);have n1_ := Aside0.mk (blk_below (g:=gb137) (o:=.cells #[.int .i64 0, .int .i64 0, .int .i64 0, .int .i64 0, .int .i64 0, .int .i64 (-77), .int .i64 0, .int .i64 0, .int .i64 0, .int .i64 0, .int .i64 0, .int .i64 0] 32 (0,0)) (by (with_reducible repeat (first | refine blk_drewN ?_ _ | refine blk_drew ?_ | refine blk_alloc ?_ _));exact BK137.out) hb);have n2_ := Aside0.mk (Kd.C_below (by repeat (first | (with_reducible exact HR144.out) | (with_reducible refine Kd.C_alloc ?_ _) | (with_reducible refine Kd.C_drewN ?_ _) | (with_reducible refine Kd.C_drew ?_) | exact HR144.out)) hb);have n3_ := Aside0.mk (below_step (by repeat (first | (with_reducible first | exact HB.out | apply below_alloc | apply pw_below_drewN | apply below_drew1 | refine below_set ?_ GE137.out) | exact HB.out)) hb);clear HO140;clear BK137;clear HR144;clear HB;have HO140 := n0_;have BK137 := n1_;have HR144 := n2_;have HB := n3_;clear n0_ n1_ n2_ n3_;(try clear hb);(try clear hb2);(try clear hk);(try clear hi)) | ((with_reducible refine gate_dst (N:=6) rfl ?_);(try (refine gate_guard (by rfl) ?_;dsimp only));refine box_event ?hg (N:=6) ?hd (cs:=#[.int .i64 0, .int .i64 0, .int .i64 0, .int .i64 0, .int .i64 0, .int .i64 0, .int .i64 0, .int .i64 0, .int .i64 0, .int .i64 0, .int .i64 0, .int .i64 0]) (t:=32) ?hr ?_;(case hd => rfl);(case hg => rfl);(case hr => first | (go_simp;done) | (go_simp;rfl));intro gb158 hg w17 hbox hb;have n0_ := Aside0.mk (Kd.R_below (Kd.R_elderB (by (with_reducible repeat (first | apply Kd.R_alloc | apply Kd.R_drewN | apply Kd.R_drew));exact HO140.out) gb158 (Nat.le_of_eq hg.symm)) hb);have n1_ := Aside0.mk (blk_below (g:=gb137) (o:=.cells #[.int .i64 0, .int .i64 0, .int .i64 0, .int .i64 0, .int .i64 0, .int .i64 (-77), .int .i64 0, .int .i64 0, .int .i64 0, .int .i64 0, .int .i64 0, .int .i64 0] 32 (0,0)) (by (with_reducible repeat (first | refine blk_drewN ?_ _ | refine blk_drew ?_ | refine blk_alloc ?_ _));exact BK137.out) hb);have n2_ := Aside0.mk (Kd.C_below (by repeat (first | (with_reducible exact HR144.out) | (with_reducible refine Kd.C_alloc ?_ _) | (with_reducible refine Kd.C_drewN ?_ _) | (with_reducible refine Kd.C_drew ?_) | exact HR144.out)) hb);have n3_ := Aside0.mk (below_step (by repeat (first | (with_reducible first | exact HB.out | apply below_alloc | apply pw_below_drewN | apply below_drew1 | refine below_set ?_ GE137.out) | exact HB.out)) hb);have n4_ := Aside0.mk (hbox);have n5_ := Aside0.mk ((by rw [hg];exact (below_size (by repeat (first | (with_reducible first | exact HB.out | apply below_alloc | apply pw_below_drewN | apply below_drew1 | refine below_set ?_ GE137.out) | exact HB.out))) : w.heap.size ≤ gb158));have n6_ := Aside0.mk ((by rw [hg];exact (below_size (by repeat (first | (with_reducible first | exact HB.out | apply below_alloc | apply pw_below_drewN | apply below_drew1 | refine below_set ?_ GE137.out) | exact HB.out))) : w.heap.size ≤ gb158));have n7_ := Aside0.mk ((by rw [hg];exact Nat.ne_of_lt (blk_lt (g:=gb137) (o:=.cells #[.int .i64 0, .int .i64 0, .int .i64 0, .int .i64 0, .int .i64 0, .int .i64 (-77), .int .i64 0, .int .i64 0, .int .i64 0, .int .i64 0, .int .i64 0, .int .i64 0] 32 (0,0)) (by (with_reducible repeat (first | refine blk_drewN ?_ _ | refine blk_drew ?_ | refine blk_alloc ?_ _));exact BK137.out)) : gb137 ≠ gb158));have n8_ := Aside0.mk ((by rw [hg];exact Nat.ne_of_gt (blk_lt (g:=gb137) (o:=.cells #[.int .i64 0, .int .i64 0, .int .i64 0, .int .i64 0, .int .i64 0, .int .i64 (-77), .int .i64 0, .int .i64 0, .int .i64 0, .int .i64 0, .int .i64 0, .int .i64 0] 32 (0,0)) (by (with_reducible repeat (first | refine blk_drewN ?_ _ | refine blk_drew ?_ | refine blk_alloc ?_ _));exact BK137.out)) : gb158 ≠ gb137));clear HO140;clear BK137;clear HR144;clear HB;have HO140 := n0_;have BK137 := n1_;have HR144 := n2_;have HB := n3_;have BK158 := n4_;have GW158 := n5_;have GE158 := n6_;have NB137_158 := n7_;have NB158_137 := n8_;clear n0_ n1_ n2_ n3_ n4_ n5_ n6_ n7_ n8_;clear hb hbox hg;have hnb18 := NB158_137.out;have hnc18 := NB137_158.out;have hcz19_0 : w17.cell? ⟨gb158,0,none⟩ = some (.int .i64 0) := (blk_cell BK158.out 0).trans rfl;have hcz19_1 : w17.cell? ⟨gb158,1,none⟩ = some (.int .i64 0) := (blk_cell BK158.out 1).trans rfl;have hcz19_2 : w17.cell? ⟨gb158,2,none⟩ = some (.int .i64 0) := (blk_cell BK158.out 2).trans rfl;have hcz19_3 : w17.cell? ⟨gb158,3,none⟩ = some (.int .i64 0) := (blk_cell BK158.out 3).trans rfl;have hcz19_4 : w17.cell? ⟨gb158,4,none⟩ = some (.int .i64 0) := (blk_cell BK158.out 4).trans rfl;have hcz19_5 : w17.cell? ⟨gb158,5,none⟩ = some (.int .i64 0) := (blk_cell BK158.out 5).trans rfl;have hcz19_6 : w17.cell? ⟨gb158,6,none⟩ = some (.int .i64 0) := (blk_cell BK158.out 6).trans rfl;have hcz19_7 : w17.cell? ⟨gb158,7,none⟩ = some (.int .i64 0) := (blk_cell BK158.out 7).trans rfl;have hcz19_8 : w17.cell? ⟨gb158,8,none⟩ = some (.int .i64 0) := (blk_cell BK158.out 8).trans rfl;have hcz19_9 : w17.cell? ⟨gb158,9,none⟩ = some (.int .i64 0) := (blk_cell BK158.out 9).trans rfl;have hcz19_10 : w17.cell? ⟨gb158,10,none⟩ = some (.int .i64 0) := (blk_cell BK158.out 10).trans rfl;have hcz19_11 : w17.cell? ⟨gb158,11,none⟩ = some (.int .i64 0) := (blk_cell BK158.out 11).trans rfl;have hfz19_0 := blk_frozen BK158.out 0;have hfz19_1 := blk_frozen BK158.out 1;have hfz19_2 := blk_frozen BK158.out 2;have hfz19_3 := blk_frozen BK158.out 3;have hfz19_4 := blk_frozen BK158.out 4;have hfz19_5 := blk_frozen BK158.out 5;have hfz19_6 := blk_frozen BK158.out 6;have hfz19_7 := blk_frozen BK158.out 7;have hfz19_8 := blk_frozen BK158.out 8;have hfz19_9 := blk_frozen BK158.out 9;have hfz19_10 := blk_frozen BK158.out 10;have hfz19_11 := blk_frozen BK158.out 11) | ((with_reducible refine gate_callee (f:=15) rfl ?_);refine goesL_ (some 34) rfl rfl Try.func15 (by kernel_rfl) rfl #[.slice A0 l0.length c0] rfl (by (try simp only [List.map_toArray,List.map_cons,List.map_nil]);first | done | rfl | (simp only [List.length_drop,List.length_take];rfl)) ?_;(with_reducible refine (arrearsref8_Total.calls k _ _ l0 t159 t160 t161 t162 t163 t164 t165 t166 t167 t168 t169 t170 t171 _ ?side1 ?side2 A7.out).mono ?_);(case side1 => exact Kd.C_below HR0.out (by repeat (first | (with_reducible first | exact HB.out | apply below_alloc | apply pw_below_drewN | apply below_drew1 | refine below_set ?_ (Aside0.out (by assumption))) | exact HB.out)));(case side2 => exact HC0.out);rintro e w20 ⟨rfl,hb⟩;refine ⟨_,rfl,?_⟩;have n0_ := Aside0.mk (Kd.R_below (by (with_reducible repeat (first | apply Kd.R_alloc | apply Kd.R_drewN | apply Kd.R_drew));exact (Kd.R_mono (Kd.R_far (p:=⟨gb158,11,none⟩) (Kd.R_far (p:=⟨gb158,10,none⟩) (Kd.R_far (p:=⟨gb158,9,none⟩) (Kd.R_far (p:=⟨gb158,8,none⟩) (Kd.R_far (p:=⟨gb158,7,none⟩) (Kd.R_far (p:=⟨gb158,6,none⟩) (Kd.R_far (p:=⟨gb158,5,none⟩) (Kd.R_far (p:=⟨gb158,4,none⟩) (Kd.R_far (p:=⟨gb158,3,none⟩) (Kd.R_far (p:=⟨gb158,2,none⟩) (Kd.R_far (p:=⟨gb158,1,none⟩) (Kd.R_far (p:=⟨gb158,0,none⟩) (Kd.R_mono HO140.out (fun k_ hk => (⟨hk,hk.2⟩ : _ ∧ k_ ≠ gb158))) (fun _ hk => hk.2) (.int .i64 t145)) (fun _ hk => hk.2) (.int .i64 t146)) (fun _ hk => hk.2) (.int .i64 t147)) (fun _ hk => hk.2) (.int .i64 t148)) (fun _ hk => hk.2) (.int .i64 t149)) (fun _ hk => hk.2) (.int .i64 t150)) (fun _ hk => hk.2) (.int .i64 t151)) (fun _ hk => hk.2) (.int .i64 t152)) (fun _ hk => hk.2) (.int .i64 t153)) (fun _ hk => hk.2) (.int .i64 t154)) (fun _ hk => hk.2) (.int .i64 t155)) (fun _ hk => hk.2) (.int .i64 t156)) (fun _ h_ => h_.1))) hb);have n1_ := Aside0.mk (blk_below (g:=gb137) (o:=.cells #[.int .i64 0, .int .i64 0, .int .i64 0, .int .i64 0, .int .i64 0, .int .i64 (-77), .int .i64 0, .int .i64 0, .int .i64 0, .int .i64 0, .int .i64 0, .int .i64 0] 32 (0,0)) (by (with_reducible repeat (first | refine blk_drewN ?_ _ | refine blk_drew ?_ | refine blk_alloc ?_ _));refine blk_far ?_ NB137_158.out _;(with_reducible repeat (first | refine blk_drewN ?_ _ | refine blk_drew ?_ | refine blk_alloc ?_ _));refine blk_far ?_ NB137_158.out _;(with_reducible repeat (first | refine blk_drewN ?_ _ | refine blk_drew ?_ | refine blk_alloc ?_ _));refine blk_far ?_ NB137_158.out _;(with_reducible repeat (first | refine blk_drewN ?_ _ | refine blk_drew ?_ | refine blk_alloc ?_ _));refine blk_far ?_ NB137_158.out _;(with_reducible repeat (first | refine blk_drewN ?_ _ | refine blk_drew ?_ | refine blk_alloc ?_ _));refine blk_far ?_ NB137_158.out _;(with_reducible repeat (first | refine blk_drewN ?_ _ | refine blk_drew ?_ | refine blk_alloc ?_ _));refine blk_far ?_ NB137_158.out _;(with_reducible repeat (first | refine blk_drewN ?_ _ | refine blk_drew ?_ | refine blk_alloc ?_ _));refine blk_far ?_ NB137_158.out _;(with_reducible repeat (first | refine blk_drewN ?_ _ | refine blk_drew ?_ | refine blk_alloc ?_ _));refine blk_far ?_ NB137_158.out _;(with_reducible repeat (first | refine blk_drewN ?_ _ | refine blk_drew ?_ | refine blk_alloc ?_ _));refine blk_far ?_ NB137_158.out _;(with_reducible repeat (first | refine blk_drewN ?_ _ | refine blk_drew ?_ | refine blk_alloc ?_ _));refine blk_far ?_ NB137_158.out _;(with_reducible repeat (first | refine blk_drewN ?_ _ | refine blk_drew ?_ | refine blk_alloc ?_ _));refine blk_far ?_ NB137_158.out _;(with_reducible repeat (first | refine blk_drewN ?_ _ | refine blk_drew ?_ | refine blk_alloc ?_ _));refine blk_far ?_ NB137_158.out _;(with_reducible repeat (first | refine blk_drewN ?_ _ | refine blk_drew ?_ | refine blk_alloc ?_ _));exact BK137.out) hb);have n2_ := Aside0.mk (blk_below (g:=gb158) (o:=.cells #[.int .i64 t145, .int .i64 t146, .int .i64 t147, .int .i64 t148, .int .i64 t149, .int .i64 t150, .int .i64 t151, .int .i64 t152, .int .i64 t153, .int .i64 t154, .int .i64 t155, .int .i64 t156] 32 (0,0)) (by (with_reducible repeat (first | refine blk_drewN ?_ _ | refine blk_drew ?_ | refine blk_alloc ?_ _));refine blk_put (cs:=#[.int .i64 t145, .int .i64 t146, .int .i64 t147, .int .i64 t148, .int .i64 t149, .int .i64 t150, .int .i64 t151, .int .i64 t152, .int .i64 t153, .int .i64 t154, .int .i64 t155, .int .i64 0]) ?_ 11 _ rfl;(with_reducible repeat (first | refine blk_drewN ?_ _ | refine blk_drew ?_ | refine blk_alloc ?_ _));refine blk_put (cs:=#[.int .i64 t145, .int .i64 t146, .int .i64 t147, .int .i64 t148, .int .i64 t149, .int .i64 t150, .int .i64 t151, .int .i64 t152, .int .i64 t153, .int .i64 t154, .int .i64 0, .int .i64 0]) ?_ 10 _ rfl;(with_reducible repeat (first | refine blk_drewN ?_ _ | refine blk_drew ?_ | refine blk_alloc ?_ _));refine blk_put (cs:=#[.int .i64 t145, .int .i64 t146, .int .i64 t147, .int .i64 t148, .int .i64 t149, .int .i64 t150, .int .i64 t151, .int .i64 t152, .int .i64 t153, .int .i64 0, .int .i64 0, .int .i64 0]) ?_ 9 _ rfl;(with_reducible repeat (first | refine blk_drewN ?_ _ | refine blk_drew ?_ | refine blk_alloc ?_ _));refine blk_put (cs:=#[.int .i64 t145, .int .i64 t146, .int .i64 t147, .int .i64 t148, .int .i64 t149, .int .i64 t150, .int .i64 t151, .int .i64 t152, .int .i64 0, .int .i64 0, .int .i64 0, .int .i64 0]) ?_ 8 _ rfl;(with_reducible repeat (first | refine blk_drewN ?_ _ | refine blk_drew ?_ | refine blk_alloc ?_ _));refine blk_put (cs:=#[.int .i64 t145, .int .i64 t146, .int .i64 t147, .int .i64 t148, .int .i64 t149, .int .i64 t150, .int .i64 t151, .int .i64 0, .int .i64 0, .int .i64 0, .int .i64 0, .int .i64 0]) ?_ 7 _ rfl;(with_reducible repeat (first | refine blk_drewN ?_ _ | refine blk_drew ?_ | refine blk_alloc ?_ _));refine blk_put (cs:=#[.int .i64 t145, .int .i64 t146, .int .i64 t147, .int .i64 t148, .int .i64 t149, .int .i64 t150, .int .i64 0, .int .i64 0, .int .i64 0, .int .i64 0, .int .i64 0, .int .i64 0]) ?_ 6 _ rfl;(with_reducible repeat (first | refine blk_drewN ?_ _ | refine blk_drew ?_ | refine blk_alloc ?_ _));refine blk_put (cs:=#[.int .i64 t145, .int .i64 t146, .int .i64 t147, .int .i64 t148, .int .i64 t149, .int .i64 0, .int .i64 0, .int .i64 0, .int .i64 0, .int .i64 0, .int .i64 0, .int .i64 0]) ?_ 5 _ rfl;(with_reducible repeat (first | refine blk_drewN ?_ _ | refine blk_drew ?_ | refine blk_alloc ?_ _));refine blk_put (cs:=#[.int .i64 t145, .int .i64 t146, .int .i64 t147, .int .i64 t148, .int .i64 0, .int .i64 0, .int .i64 0, .int .i64 0, .int .i64 0, .int .i64 0, .int .i64 0, .int .i64 0]) ?_ 4 _ rfl;(with_reducible repeat (first | refine blk_drewN ?_ _ | refine blk_drew ?_ | refine blk_alloc ?_ _));refine blk_put (cs:=#[.int .i64 t145, .int .i64 t146, .int .i64 t147, .int .i64 0, .int .i64 0, .int .i64 0, .int .i64 0, .int .i64 0, .int .i64 0, .int .i64 0, .int .i64 0, .int .i64 0]) ?_ 3 _ rfl;(with_reducible repeat (first | refine blk_drewN ?_ _ | refine blk_drew ?_ | refine blk_alloc ?_ _));refine blk_put (cs:=#[.int .i64 t145, .int .i64 t146, .int .i64 0, .int .i64 0, .int .i64 0, .int .i64 0, .int .i64 0, .int .i64 0, .int .i64 0, .int .i64 0, .int .i64 0, .int .i64 0]) ?_ 2 _ rfl;(with_reducible repeat (first | refine blk_drewN ?_ _ | refine blk_drew ?_ | refine blk_alloc ?_ _));refine blk_put (cs:=#[.int .i64 t145, .int .i64 0, .int .i64 0, .int .i64 0, .int .i64 0, .int .i64 0, .int .i64 0, .int .i64 0, .int .i64 0, .int .i64 0, .int .i64 0, .int .i64 0]) ?_ 1 _ rfl;(with_reducible repeat (first | refine blk_drewN ?_ _ | refine blk_drew ?_ | refine blk_alloc ?_ _));refine blk_put (cs:=#[.int .i64 0, .int .i64 0, .int .i64 0, .int .i64 0, .int .i64 0, .int .i64 0, .int .i64 0, .int .i64 0, .int .i64 0, .int .i64 0, .int .i64 0, .int .i64 0]) ?_ 0 _ rfl;(with_reducible repeat (first | refine blk_drewN ?_ _ | refine blk_drew ?_ | refine blk_alloc ?_ _));exact BK158.out) hb);have n3_ := Aside0.mk (below_step (by repeat (first | (with_reducible first | exact HB.out | apply below_alloc | apply pw_below_drewN | apply below_drew1 | refine below_set ?_ (Aside0.out (by assumption))) | exact HB.out)) hb);clear HO140;clear BK137;clear BK158;clear HB;have HO140 := n0_;have BK137 := n1_;have BK158 := n2_;have HB := n3_;clear n0_ n1_ n2_ n3_;(try clear hb);(try clear hb2);(try clear hk);(try clear hi)) | ((with_reducible refine gate_dst (N:=8) rfl ?_);(try (refine gate_guard (by rfl) ?_;dsimp only));refine box_event ?hg (N:=8) ?hd (cs:=#[.int .i64 0, .int .i64 0, .int .i64 0, .int .i64 0, .int .i64 0, .int .i64 0, .int .i64 0, .int .i64 0, .int .i64 0, .int .i64 0, .int .i64 0, .int .i64 0]) (t:=32) ?hr ?_;(case hd => rfl);(case hg => rfl);(case hr => first | (go_simp;done) | (go_simp;rfl));intro gb172 hg w21 hbox hb;have n0_ := Aside0.mk (Kd.R_below (Kd.R_elderB (by (with_reducible repeat (first | apply Kd.R_alloc | apply Kd.R_drewN | apply Kd.R_drew));exact HO140.out) gb172 (Nat.le_of_eq hg.symm)) hb);have n1_ := Aside0.mk (blk_below (g:=gb137) (o:=.cells #[.int .i64 0, .int .i64 0, .int .i64 0, .int .i64 0, .int .i64 0, .int .i64 (-77), .int .i64 0, .int .i64 0, .int .i64 0, .int .i64 0, .int .i64 0, .int .i64 0] 32 (0,0)) (by (with_reducible repeat (first | refine blk_drewN ?_ _ | refine blk_drew ?_ | refine blk_alloc ?_ _));exact BK137.out) hb);have n2_ := Aside0.mk (blk_below (g:=gb158) (o:=.cells #[.int .i64 t145, .int .i64 t146, .int .i64 t147, .int .i64 t148, .int .i64 t149, .int .i64 t150, .int .i64 t151, .int .i64 t152, .int .i64 t153, .int .i64 t154, .int .i64 t155, .int .i64 t156] 32 (0,0)) (by (with_reducible repeat (first | refine blk_drewN ?_ _ | refine blk_drew ?_ | refine blk_alloc ?_ _));exact BK158.out) hb);have n3_ := Aside0.mk (below_step (by repeat (first | (with_reducible first | exact HB.out | apply below_alloc | apply pw_below_drewN | apply below_drew1 | refine below_set ?_ (Aside0.out (by assumption))) | exact HB.out)) hb);have n4_ := Aside0.mk (hbox);have n5_ := Aside0.mk ((by rw [hg];exact (below_size (by repeat (first | (with_reducible first | exact HB.out | apply below_alloc | apply pw_below_drewN | apply below_drew1 | refine below_set ?_ (Aside0.out (by assumption))) | exact HB.out))) : w.heap.size ≤ gb172));have n6_ := Aside0.mk ((by rw [hg];exact (below_size (by repeat (first | (with_reducible first | exact HB.out | apply below_alloc | apply pw_below_drewN | apply below_drew1 | refine below_set ?_ (Aside0.out (by assumption))) | exact HB.out))) : w.heap.size ≤ gb172));have n7_ := Aside0.mk ((by rw [hg];exact Nat.ne_of_lt (blk_lt (g:=gb137) (o:=.cells #[.int .i64 0, .int .i64 0, .int .i64 0, .int .i64 0, .int .i64 0, .int .i64 (-77), .int .i64 0, .int .i64 0, .int .i64 0, .int .i64 0, .int .i64 0, .int .i64 0] 32 (0,0)) (by (with_reducible repeat (first | refine blk_drewN ?_ _ | refine blk_drew ?_ | refine blk_alloc ?_ _));exact BK137.out)) : gb137 ≠ gb172));have n8_ := Aside0.mk ((by rw [hg];exact Nat.ne_of_gt (blk_lt (g:=gb137) (o:=.cells #[.int .i64 0, .int .i64 0, .int .i64 0, .int .i64 0, .int .i64 0, .int .i64 (-77), .int .i64 0, .int .i64 0, .int .i64 0, .int .i64 0, .int .i64 0, .int .i64 0] 32 (0,0)) (by (with_reducible repeat (first | refine blk_drewN ?_ _ | refine blk_drew ?_ | refine blk_alloc ?_ _));exact BK137.out)) : gb172 ≠ gb137));have n9_ := Aside0.mk ((by rw [hg];exact Nat.ne_of_lt (blk_lt (g:=gb158) (o:=.cells #[.int .i64 t145, .int .i64 t146, .int .i64 t147, .int .i64 t148, .int .i64 t149, .int .i64 t150, .int .i64 t151, .int .i64 t152, .int .i64 t153, .int .i64 t154, .int .i64 t155, .int .i64 t156] 32 (0,0)) (by (with_reducible repeat (first | refine blk_drewN ?_ _ | refine blk_drew ?_ | refine blk_alloc ?_ _));exact BK158.out)) : gb158 ≠ gb172));have n10_ := Aside0.mk ((by rw [hg];exact Nat.ne_of_gt (blk_lt (g:=gb158) (o:=.cells #[.int .i64 t145, .int .i64 t146, .int .i64 t147, .int .i64 t148, .int .i64 t149, .int .i64 t150, .int .i64 t151, .int .i64 t152, .int .i64 t153, .int .i64 t154, .int .i64 t155, .int .i64 t156] 32 (0,0)) (by (with_reducible repeat (first | refine blk_drewN ?_ _ | refine blk_drew ?_ | refine blk_alloc ?_ _));exact BK158.out)) : gb172 ≠ gb158));clear HO140;clear BK137;clear BK158;clear HB;have HO140 := n0_;have BK137 := n1_;have BK158 := n2_;have HB := n3_;have BK172 := n4_;have GW172 := n5_;have GE172 := n6_;have NB137_172 := n7_;have NB172_137 := n8_;have NB158_172 := n9_;have NB172_158 := n10_;clear n0_ n1_ n2_ n3_ n4_ n5_ n6_ n7_ n8_ n9_ n10_;clear hb hbox hg;have hnb22 := NB172_137.out;have hnc22 := NB137_172.out;have hnb23 := NB172_158.out;have hnc23 := NB158_172.out;have hcz24_0 : w21.cell? ⟨gb172,0,none⟩ = some (.int .i64 0) := (blk_cell BK172.out 0).trans rfl;have hcz24_1 : w21.cell? ⟨gb172,1,none⟩ = some (.int .i64 0) := (blk_cell BK172.out 1).trans rfl;have hcz24_2 : w21.cell? ⟨gb172,2,none⟩ = some (.int .i64 0) := (blk_cell BK172.out 2).trans rfl;have hcz24_3 : w21.cell? ⟨gb172,3,none⟩ = some (.int .i64 0) := (blk_cell BK172.out 3).trans rfl;have hcz24_4 : w21.cell? ⟨gb172,4,none⟩ = some (.int .i64 0) := (blk_cell BK172.out 4).trans rfl;have hcz24_5 : w21.cell? ⟨gb172,5,none⟩ = some (.int .i64 0) := (blk_cell BK172.out 5).trans rfl;have hcz24_6 : w21.cell? ⟨gb172,6,none⟩ = some (.int .i64 0) := (blk_cell BK172.out 6).trans rfl;have hcz24_7 : w21.cell? ⟨gb172,7,none⟩ = some (.int .i64 0) := (blk_cell BK172.out 7).trans rfl;have hcz24_8 : w21.cell? ⟨gb172,8,none⟩ = some (.int .i64 0) := (blk_cell BK172.out 8).trans rfl;have hcz24_9 : w21.cell? ⟨gb172,9,none⟩ = some (.int .i64 0) := (blk_cell BK172.out 9).trans rfl;have hcz24_10 : w21.cell? ⟨gb172,10,none⟩ = some (.int .i64 0) := (blk_cell BK172.out 10).trans rfl;have hcz24_11 : w21.cell? ⟨gb172,11,none⟩ = some (.int .i64 0) := (blk_cell BK172.out 11).trans rfl;have hfz24_0 := blk_frozen BK172.out 0;have hfz24_1 := blk_frozen BK172.out 1;have hfz24_2 := blk_frozen BK172.out 2;have hfz24_3 := blk_frozen BK172.out 3;have hfz24_4 := blk_frozen BK172.out 4;have hfz24_5 := blk_frozen BK172.out 5;have hfz24_6 := blk_frozen BK172.out 6;have hfz24_7 := blk_frozen BK172.out 7;have hfz24_8 := blk_frozen BK172.out 8;have hfz24_9 := blk_frozen BK172.out 9;have hfz24_10 := blk_frozen BK172.out 10;have hfz24_11 := blk_frozen BK172.out 11) | ((with_reducible refine gate_store (t:=32) (p:=8) rfl ?_);refine store_event (t:=32) (p:=8) (v:=?vo_w25) (w1:=((((((((((((w21.setCell ⟨gb172,0,none⟩ (.int .i64 t159)).setCell ⟨gb172,1,none⟩ (.int .i64 t160)).setCell ⟨gb172,2,none⟩ (.int .i64 t161)).setCell ⟨gb172,3,none⟩ (.int .i64 t162)).setCell ⟨gb172,4,none⟩ (.int .i64 t163)).setCell ⟨gb172,5,none⟩ (.int .i64 t164)).setCell ⟨gb172,6,none⟩ (.int .i64 t165)).setCell ⟨gb172,7,none⟩ (.int .i64 t166)).setCell ⟨gb172,8,none⟩ (.int .i64 t167)).setCell ⟨gb172,9,none⟩ (.int .i64 t168)).setCell ⟨gb172,10,none⟩ (.int .i64 t169)).setCell ⟨gb172,11,none⟩ (.int .i64 t170))) ?hg ?ho ?hn ?hr ?_;(case ho => rfl);(case hg => rfl);(case hn => rfl);(case hr => first | (go_simp;done) | (go_simp;rfl));intro w25 hw;have n0_ : Aside0 (Kd.R k32 32 w25 w.heap.size (fun k_ => k_ ≠ gb137 ∧ k_ ≠ gb158 ∧ k_ ≠ gb172) (.slice Ao15 y138.length co15) y138) := ⟨(by rw [hw];exact (by (with_reducible repeat (first | apply Kd.R_alloc | apply Kd.R_drewN | apply Kd.R_drew));exact Kd.R_mono (Kd.R_far (p:=⟨gb172,11,none⟩) (Kd.R_far (p:=⟨gb172,10,none⟩) (Kd.R_far (p:=⟨gb172,9,none⟩) (Kd.R_far (p:=⟨gb172,8,none⟩) (Kd.R_far (p:=⟨gb172,7,none⟩) (Kd.R_far (p:=⟨gb172,6,none⟩) (Kd.R_far (p:=⟨gb172,5,none⟩) (Kd.R_far (p:=⟨gb172,4,none⟩) (Kd.R_far (p:=⟨gb172,3,none⟩) (Kd.R_far (p:=⟨gb172,2,none⟩) (Kd.R_far (p:=⟨gb172,1,none⟩) (Kd.R_far (p:=⟨gb172,0,none⟩) (Kd.R_mono HO140.out (fun k_ hk => (⟨hk,hk.2⟩ : _ ∧ k_ ≠ gb172))) (fun _ hk => hk.2) (.int .i64 t159)) (fun _ hk => hk.2) (.int .i64 t160)) (fun _ hk => hk.2) (.int .i64 t161)) (fun _ hk => hk.2) (.int .i64 t162)) (fun _ hk => hk.2) (.int .i64 t163)) (fun _ hk => hk.2) (.int .i64 t164)) (fun _ hk => hk.2) (.int .i64 t165)) (fun _ hk => hk.2) (.int .i64 t166)) (fun _ hk => hk.2) (.int .i64 t167)) (fun _ hk => hk.2) (.int .i64 t168)) (fun _ hk => hk.2) (.int .i64 t169)) (fun _ hk => hk.2) (.int .i64 t170)) (fun _ hk => ⟨hk.1.1.1,⟨hk.1.1.2,hk.1.2⟩⟩)))⟩;have n1_ : Aside0 (w25.heap[gb137]? = some (.cells #[.int .i64 0, .int .i64 0, .int .i64 0, .int .i64 0, .int .i64 0, .int .i64 (-77), .int .i64 0, .int .i64 0, .int .i64 0, .int .i64 0, .int .i64 0, .int .i64 0] 32 (0,0))) := ⟨(by rw [hw];exact (by (with_reducible repeat (first | refine blk_drewN ?_ _ | refine blk_drew ?_ | refine blk_alloc ?_ _));refine blk_far ?_ NB137_172.out _;(with_reducible repeat (first | refine blk_drewN ?_ _ | refine blk_drew ?_ | refine blk_alloc ?_ _));refine blk_far ?_ NB137_172.out _;(with_reducible repeat (first | refine blk_drewN ?_ _ | refine blk_drew ?_ | refine blk_alloc ?_ _));refine blk_far ?_ NB137_172.out _;(with_reducible repeat (first | refine blk_drewN ?_ _ | refine blk_drew ?_ | refine blk_alloc ?_ _));refine blk_far ?_ NB137_172.out _;(with_reducible repeat (first | refine blk_drewN ?_ _ | refine blk_drew ?_ | refine blk_alloc ?_ _));refine blk_far ?_ NB137_172.out _;(with_reducible repeat (first | refine blk_drewN ?_ _ | refine blk_drew ?_ | refine blk_alloc ?_ _));refine blk_far ?_ NB137_172.out _;(with_reducible repeat (first | refine blk_drewN ?_ _ | refine blk_drew ?_ | refine blk_alloc ?_ _));refine blk_far ?_ NB137_172.out _;(with_reducible repeat (first | refine blk_drewN ?_ _ | refine blk_drew ?_ | refine blk_alloc ?_ _));refine blk_far ?_ NB137_172.out _;(with_reducible repeat (first | refine blk_drewN ?_ _ | refine blk_drew ?_ | refine blk_alloc ?_ _));refine blk_far ?_ NB137_172.out _;(with_reducible repeat (first | refine blk_drewN ?_ _ | refine blk_drew ?_ | refine blk_alloc ?_ _));refine blk_far ?_ NB137_172.out _;(with_reducible repeat (first | refine blk_drewN ?_ _ | refine blk_drew ?_ | refine blk_alloc ?_ _));refine blk_far ?_ NB137_172.out _;(with_reducible repeat (first | refine blk_drewN ?_ _ | refine blk_drew ?_ | refine blk_alloc ?_ _));refine blk_far ?_ NB137_172.out _;(with_reducible repeat (first | refine blk_drewN ?_ _ | refine blk_drew ?_ | refine blk_alloc ?_ _));exact BK137.out))⟩;have n2_ : Aside0 (w25.heap[gb158]? = some (.cells #[.int .i64 t145, .int .i64 t146, .int .i64 t147, .int .i64 t148, .int .i64 t149, .int .i64 t150, .int .i64 t151, .int .i64 t152, .int .i64 t153, .int .i64 t154, .int .i64 t155, .int .i64 t156] 32 (0,0))) := ⟨(by rw [hw];exact (by (with_reducible repeat (first | refine blk_drewN ?_ _ | refine blk_drew ?_ | refine blk_alloc ?_ _));refine blk_far ?_ NB158_172.out _;(with_reducible repeat (first | refine blk_drewN ?_ _ | refine blk_drew ?_ | refine blk_alloc ?_ _));refine blk_far ?_ NB158_172.out _;(with_reducible repeat (first | refine blk_drewN ?_ _ | refine blk_drew ?_ | refine blk_alloc ?_ _));refine blk_far ?_ NB158_172.out _;(with_reducible repeat (first | refine blk_drewN ?_ _ | refine blk_drew ?_ | refine blk_alloc ?_ _));refine blk_far ?_ NB158_172.out _;(with_reducible repeat (first | refine blk_drewN ?_ _ | refine blk_drew ?_ | refine blk_alloc ?_ _));refine blk_far ?_ NB158_172.out _;(with_reducible repeat (first | refine blk_drewN ?_ _ | refine blk_drew ?_ | refine blk_alloc ?_ _));refine blk_far ?_ NB158_172.out _;(with_reducible repeat (first | refine blk_drewN ?_ _ | refine blk_drew ?_ | refine blk_alloc ?_ _));refine blk_far ?_ NB158_172.out _;(with_reducible repeat (first | refine blk_drewN ?_ _ | refine blk_drew ?_ | refine blk_alloc ?_ _));refine blk_far ?_ NB158_172.out _;(with_reducible repeat (first | refine blk_drewN ?_ _ | refine blk_drew ?_ | refine blk_alloc ?_ _));refine blk_far ?_ NB158_172.out _;(with_reducible repeat (first | refine blk_drewN ?_ _ | refine blk_drew ?_ | refine blk_alloc ?_ _));refine blk_far ?_ NB158_172.out _;(with_reducible repeat (first | refine blk_drewN ?_ _ | refine blk_drew ?_ | refine blk_alloc ?_ _));refine blk_far ?_ NB158_172.out _;(with_reducible repeat (first | refine blk_drewN ?_ _ | refine blk_drew ?_ | refine blk_alloc ?_ _));refine blk_far ?_ NB158_172.out _;(with_reducible repeat (first | refine blk_drewN ?_ _ | refine blk_drew ?_ | refine blk_alloc ?_ _));exact BK158.out))⟩;have n3_ : Aside0 (w25.heap[gb172]? = some (.cells #[.int .i64 t159, .int .i64 t160, .int .i64 t161, .int .i64 t162, .int .i64 t163, .int .i64 t164, .int .i64 t165, .int .i64 t166, .int .i64 t167, .int .i64 t168, .int .i64 t169, .int .i64 t170] 32 (0,0))) := ⟨(by rw [hw];exact (by (with_reducible repeat (first | refine blk_drewN ?_ _ | refine blk_drew ?_ | refine blk_alloc ?_ _));refine blk_put (cs:=#[.int .i64 t159, .int .i64 t160, .int .i64 t161, .int .i64 t162, .int .i64 t163, .int .i64 t164, .int .i64 t165, .int .i64 t166, .int .i64 t167, .int .i64 t168, .int .i64 t169, .int .i64 0]) ?_ 11 _ rfl;(with_reducible repeat (first | refine blk_drewN ?_ _ | refine blk_drew ?_ | refine blk_alloc ?_ _));refine blk_put (cs:=#[.int .i64 t159, .int .i64 t160, .int .i64 t161, .int .i64 t162, .int .i64 t163, .int .i64 t164, .int .i64 t165, .int .i64 t166, .int .i64 t167, .int .i64 t168, .int .i64 0, .int .i64 0]) ?_ 10 _ rfl;(with_reducible repeat (first | refine blk_drewN ?_ _ | refine blk_drew ?_ | refine blk_alloc ?_ _));refine blk_put (cs:=#[.int .i64 t159, .int .i64 t160, .int .i64 t161, .int .i64 t162, .int .i64 t163, .int .i64 t164, .int .i64 t165, .int .i64 t166, .int .i64 t167, .int .i64 0, .int .i64 0, .int .i64 0]) ?_ 9 _ rfl;(with_reducible repeat (first | refine blk_drewN ?_ _ | refine blk_drew ?_ | refine blk_alloc ?_ _));refine blk_put (cs:=#[.int .i64 t159, .int .i64 t160, .int .i64 t161, .int .i64 t162, .int .i64 t163, .int .i64 t164, .int .i64 t165, .int .i64 t166, .int .i64 0, .int .i64 0, .int .i64 0, .int .i64 0]) ?_ 8 _ rfl;(with_reducible repeat (first | refine blk_drewN ?_ _ | refine blk_drew ?_ | refine blk_alloc ?_ _));refine blk_put (cs:=#[.int .i64 t159, .int .i64 t160, .int .i64 t161, .int .i64 t162, .int .i64 t163, .int .i64 t164, .int .i64 t165, .int .i64 0, .int .i64 0, .int .i64 0, .int .i64 0, .int .i64 0]) ?_ 7 _ rfl;(with_reducible repeat (first | refine blk_drewN ?_ _ | refine blk_drew ?_ | refine blk_alloc ?_ _));refine blk_put (cs:=#[.int .i64 t159, .int .i64 t160, .int .i64 t161, .int .i64 t162, .int .i64 t163, .int .i64 t164, .int .i64 0, .int .i64 0, .int .i64 0, .int .i64 0, .int .i64 0, .int .i64 0]) ?_ 6 _ rfl;(with_reducible repeat (first | refine blk_drewN ?_ _ | refine blk_drew ?_ | refine blk_alloc ?_ _));refine blk_put (cs:=#[.int .i64 t159, .int .i64 t160, .int .i64 t161, .int .i64 t162, .int .i64 t163, .int .i64 0, .int .i64 0, .int .i64 0, .int .i64 0, .int .i64 0, .int .i64 0, .int .i64 0]) ?_ 5 _ rfl;(with_reducible repeat (first | refine blk_drewN ?_ _ | refine blk_drew ?_ | refine blk_alloc ?_ _));refine blk_put (cs:=#[.int .i64 t159, .int .i64 t160, .int .i64 t161, .int .i64 t162, .int .i64 0, .int .i64 0, .int .i64 0, .int .i64 0, .int .i64 0, .int .i64 0, .int .i64 0, .int .i64 0]) ?_ 4 _ rfl;(with_reducible repeat (first | refine blk_drewN ?_ _ | refine blk_drew ?_ | refine blk_alloc ?_ _));refine blk_put (cs:=#[.int .i64 t159, .int .i64 t160, .int .i64 t161, .int .i64 0, .int .i64 0, .int .i64 0, .int .i64 0, .int .i64 0, .int .i64 0, .int .i64 0, .int .i64 0, .int .i64 0]) ?_ 3 _ rfl;(with_reducible repeat (first | refine blk_drewN ?_ _ | refine blk_drew ?_ | refine blk_alloc ?_ _));refine blk_put (cs:=#[.int .i64 t159, .int .i64 t160, .int .i64 0, .int .i64 0, .int .i64 0, .int .i64 0, .int .i64 0, .int .i64 0, .int .i64 0, .int .i64 0, .int .i64 0, .int .i64 0]) ?_ 2 _ rfl;(with_reducible repeat (first | refine blk_drewN ?_ _ | refine blk_drew ?_ | refine blk_alloc ?_ _));refine blk_put (cs:=#[.int .i64 t159, .int .i64 0, .int .i64 0, .int .i64 0, .int .i64 0, .int .i64 0, .int .i64 0, .int .i64 0, .int .i64 0, .int .i64 0, .int .i64 0, .int .i64 0]) ?_ 1 _ rfl;(with_reducible repeat (first | refine blk_drewN ?_ _ | refine blk_drew ?_ | refine blk_alloc ?_ _));refine blk_put (cs:=#[.int .i64 0, .int .i64 0, .int .i64 0, .int .i64 0, .int .i64 0, .int .i64 0, .int .i64 0, .int .i64 0, .int .i64 0, .int .i64 0, .int .i64 0, .int .i64 0]) ?_ 0 _ rfl;(with_reducible repeat (first | refine blk_drewN ?_ _ | refine blk_drew ?_ | refine blk_alloc ?_ _));exact BK172.out))⟩;have n4_ : Aside0 (Below w.heap.size w w25) := ⟨(by rw [hw];exact (by repeat (first | (with_reducible first | exact HB.out | apply below_alloc | apply pw_below_drewN | apply below_drew1 | refine below_set ?_ (Aside0.out (by assumption))) | exact HB.out)))⟩;clear hw;clear HO140;clear BK137;clear BK158;clear BK172;clear HB;have HO140 := n0_;have BK137 := n1_;have BK158 := n2_;have BK172 := n3_;have HB := n4_;clear n0_ n1_ n2_ n3_ n4_))
     go_loopg [10] k (fun kq v10 w' => ∃ (x10_1 : Int),v10 = .int .i64 x10_1 ∧ Aside0 (arrearslaw8_LedgerTotals.l0 kq l0 y138 y141 t157 t171 x10_1 0 0 0 0 0 (-77) 0 0 0 0 0 0 t145 t146 t147 t148 t149 t150 t151 t152 t153 t154 t155 t156 t159 t160 t161 t162 t163 t164 t165 t166 t167 t168 t169 t170 = some r) ∧ Aside0 (kq ≤ k) ∧ Aside0 (Kd.R k32 32 w' w.heap.size (fun k_ => k_ ≠ gb137 ∧ k_ ≠ gb158 ∧ k_ ≠ gb172) (.slice Ao15 y138.length co15) y138) ∧ Aside0 (w'.heap[gb137]? = some (.cells #[.int .i64 0, .int .i64 0, .int .i64 0, .int .i64 0, .int .i64 0, .int .i64 (-77), .int .i64 0, .int .i64 0, .int .i64 0, .int .i64 0, .int .i64 0, .int .i64 0] 32 (0,0))) ∧ Aside0 (w'.heap[gb158]? = some (.cells #[.int .i64 t145, .int .i64 t146, .int .i64 t147, .int .i64 t148, .int .i64 t149, .int .i64 t150, .int .i64 t151, .int .i64 t152, .int .i64 t153, .int .i64 t154, .int .i64 t155, .int .i64 t156] 32 (0,0))) ∧ Aside0 (w'.heap[gb172]? = some (.cells #[.int .i64 t159, .int .i64 t160, .int .i64 t161, .int .i64 t162, .int .i64 t163, .int .i64 t164, .int .i64 t165, .int .i64 t166, .int .i64 t167, .int .i64 t168, .int .i64 t169, .int .i64 t170] 32 (0,0))) ∧ Aside0 (Below w.heap.size w w'))
     case atStart => exact ⟨(0),(by first | rfl | (simp;done) | (simp [*];done)),H',⟨Nat.le_refl _⟩,⟨by (with_reducible repeat (first | apply Kd.R_alloc | apply Kd.R_drewN | apply Kd.R_drew));exact HO140.out⟩,⟨by (with_reducible repeat (first | refine blk_drewN ?_ _ | refine blk_drew ?_ | refine blk_alloc ?_ _));exact BK137.out⟩,⟨by (with_reducible repeat (first | refine blk_drewN ?_ _ | refine blk_drew ?_ | refine blk_alloc ?_ _));exact BK158.out⟩,⟨by (with_reducible repeat (first | refine blk_drewN ?_ _ | refine blk_drew ?_ | refine blk_alloc ?_ _));exact BK172.out⟩,⟨by repeat (first | (with_reducible first | exact HB.out | apply below_alloc | apply pw_below_drewN | apply below_drew1 | refine below_set ?_ (Aside0.out (by assumption))) | exact HB.out)⟩⟩
     case round =>
      clear H'
      (try clear c1);(try clear q1);(try clear c2);(try clear p2);(try clear c3);(try clear c4);(try clear c4b0);(try clear c4b1);(try clear c5);(try clear c5b0);(try clear c5b1);(try clear c14);(try clear q14 q14);(try clear c15);(try clear c18);(try clear c22);(try clear c23);(try clear hcz10_0 hcz10_1 hcz10_10 hcz10_11 hcz10_2 hcz10_3 hcz10_4 hcz10_5 hcz10_6 hcz10_7 hcz10_8 hcz10_9 hfz10_0 hfz10_1 hfz10_10 hfz10_11 hfz10_2 hfz10_3 hfz10_4 hfz10_5 hfz10_6 hfz10_7 hfz10_8 hfz10_9);(try clear hcz12_0 hcz12_1 hcz12_10 hcz12_11 hcz12_2 hcz12_3 hcz12_4 hcz12_5 hcz12_6 hcz12_7 hcz12_8 hcz12_9 hfz12_0 hfz12_1 hfz12_10 hfz12_11 hfz12_2 hfz12_3 hfz12_4 hfz12_5 hfz12_6 hfz12_7 hfz12_8 hfz12_9);(try clear hcz19_0 hcz19_1 hcz19_10 hcz19_11 hcz19_2 hcz19_3 hcz19_4 hcz19_5 hcz19_6 hcz19_7 hcz19_8 hcz19_9 hfz19_0 hfz19_1 hfz19_10 hfz19_11 hfz19_2 hfz19_3 hfz19_4 hfz19_5 hfz19_6 hfz19_7 hfz19_8 hfz19_9);(try clear hcz24_0 hcz24_1 hcz24_10 hcz24_11 hcz24_2 hcz24_3 hcz24_4 hcz24_5 hcz24_6 hcz24_7 hcz24_8 hcz24_9 hfz24_0 hfz24_1 hfz24_10 hfz24_11 hfz24_2 hfz24_3 hfz24_4 hfz24_5 hfz24_6 hfz24_7 hfz24_8 hfz24_9)
      obtain ⟨x10_1,rfl,HA,HK1,HO_3,BK137,BK158,BK172,HB⟩ := hrel
      cases gk with
      | zero => exact absurd HA.out (by simp [arrearslaw8_LedgerTotals.l0])
      | succ k1 =>
       have H := HA.out
       clear HA
       simp only [arrearslaw8_LedgerTotals.l0] at H
       by_cases c26 : x10_1 < (l0.length : Int)
       ·
        rw [if_pos c26] at H
        have c26b0 : decide (x10_1 < (l0.length : Int)) = true := decide_eq_true c26
        clear c26
        by_cases c27 : 0 ≤ x10_1
        ·
         rw [if_pos c27] at H
         have c27b0 : decide (0 ≤ x10_1) = true := decide_eq_true c27
         clear c27
         by_cases c28 : x10_1 < (y141.length : Int)
         ·
          rw [if_pos c28] at H
          have c28b0 : decide (x10_1 < (y141.length : Int)) = true := decide_eq_true c28
          clear c28
          replace H := Option.bind_eq_some_iff.mp H
          obtain ⟨t175,A290,H⟩ := H
          replace H : (if t175 = true then (arrearslaw8_LedgerTotals.l0 k1 l0 y138 y141 t157 t171 (wrap64 (x10_1 + 1)) 0 0 0 0 0 (-77) 0 0 0 0 0 0 t145 t146 t147 t148 t149 t150 t151 t152 t153 t154 t155 t156 t159 t160 t161 t162 t163 t164 t165 t166 t167 t168 t169 t170) else (none)) = some r := H
          have A29 := Aside0.mk A290
          clear A290
          by_cases c30 : t175 = true
          ·
           subst c30
           have H1 : (arrearslaw8_LedgerTotals.l0 k1 l0 y138 y141 t157 t171 (wrap64 (x10_1 + 1)) 0 0 0 0 0 (-77) 0 0 0 0 0 0 t145 t146 t147 t148 t149 t150 t151 t152 t153 t154 t155 t156 t159 t160 t161 t162 t163 t164 t165 t166 t167 t168 t169 t170) = some r := by rw [if_pos rfl] at H;exact H
           clear H
           have H := H1
           clear H1
           have H' := Aside0.mk H
           clear H
           try go_wp2
           have n0_ := Aside0.mk (Kd.R_drew HO_3.out)
           have n1_ := Aside0.mk (blk_drew BK137.out)
           have n2_ := Aside0.mk (blk_drew BK158.out)
           have n3_ := Aside0.mk (blk_drew BK172.out)
           have n4_ := Aside0.mk (below_drew1 HB.out)
           clear HO_3
           clear BK137
           clear BK158
           clear BK172
           clear HB
           have HO_3 := n0_
           have BK137 := n1_
           have BK158 := n2_
           have BK172 := n3_
           have HB := n4_
           clear n0_ n1_ n2_ n3_ n4_
           have p173 : 0 ≤ (x10_1 : Int) := of_decide_eq_true (by first | (with_reducible assumption) | assumption)
           have q173 : x10_1 < (y141.length : Int) := of_decide_eq_true (by first | (with_reducible assumption) | assumption)
           obtain ⟨ad173,e173,hx173_0,hx173_1,hx173_2,hx173_3,hx173_4,hx173_5,hx173_6,hx173_7,hx173_8,hx173_9,hx173_10,hx173_11⟩ := at_T32 (show Kd.C k32 _ Ao15 y141.length y141 from (by have h_ := Kd.C_take (m:=((l0.length : Int) : Int).toNat) (Kd.R_reads' HO_3.out).2.2 KL14.out;rw [← Ny141.out] at h_;exact h_)) x10_1 p173 q173
           have hw173_11 := hx173_11
           have hw173_10 := hx173_10
           have hw173_9 := hx173_9
           have hw173_8 := hx173_8
           have hw173_7 := hx173_7
           have hw173_6 := hx173_6
           have hw173_5 := hx173_5
           have hw173_4 := hx173_4
           have hw173_3 := hx173_3
           have hw173_2 := hx173_2
           have hw173_1 := hx173_1
           have hw173_0 := hx173_0
           cases e173
           replace p173 := eq_true p173
           replace q173 := eq_true q173
           have p174 : 0 ≤ (x10_1 : Int) := of_decide_eq_true (by first | (with_reducible assumption) | assumption)
           have q174 : x10_1 < (l0.length : Int) := of_decide_eq_true (by first | (with_reducible assumption) | assumption)
           obtain ⟨ad174,e174,hx174_0,hx174_1,hx174_2,hx174_3,hx174_4,hx174_5,hx174_6,hx174_7,hx174_8,hx174_9,hx174_10,hx174_11⟩ := at_T32 HR0.out x10_1 p174 q174
           have hw174_11 := hx174_11
           have hw174_10 := hx174_10
           have hw174_9 := hx174_9
           have hw174_8 := hx174_8
           have hw174_7 := hx174_7
           have hw174_6 := hx174_6
           have hw174_5 := hx174_5
           have hw174_4 := hx174_4
           have hw174_3 := hx174_3
           have hw174_2 := hx174_2
           have hw174_1 := hx174_1
           have hw174_0 := hx174_0
           cases e174
           replace hx174_0 := (HB.out.cell (World.block_lt_of_cell? w _ hx174_0)).trans hx174_0
           replace hx174_1 := (HB.out.cell (World.block_lt_of_cell? w _ hx174_1)).trans hx174_1
           replace hx174_2 := (HB.out.cell (World.block_lt_of_cell? w _ hx174_2)).trans hx174_2
           replace hx174_3 := (HB.out.cell (World.block_lt_of_cell? w _ hx174_3)).trans hx174_3
           replace hx174_4 := (HB.out.cell (World.block_lt_of_cell? w _ hx174_4)).trans hx174_4
           replace hx174_5 := (HB.out.cell (World.block_lt_of_cell? w _ hx174_5)).trans hx174_5
           replace hx174_6 := (HB.out.cell (World.block_lt_of_cell? w _ hx174_6)).trans hx174_6
           replace hx174_7 := (HB.out.cell (World.block_lt_of_cell? w _ hx174_7)).trans hx174_7
           replace hx174_8 := (HB.out.cell (World.block_lt_of_cell? w _ hx174_8)).trans hx174_8
           replace hx174_9 := (HB.out.cell (World.block_lt_of_cell? w _ hx174_9)).trans hx174_9
           replace hx174_10 := (HB.out.cell (World.block_lt_of_cell? w _ hx174_10)).trans hx174_10
           replace hx174_11 := (HB.out.cell (World.block_lt_of_cell? w _ hx174_11)).trans hx174_11
           replace p174 := eq_true p174
           replace q174 := eq_true q174
           refine start_ (n:=10) (S:=fun w' => w'.cell? (ad173.add ((x10_1).toNat * 12)) = some (.int .i64 ((rd_T32 y141 x10_1).f0.f0)) ∧ w'.cell? ⟨(ad173.add ((x10_1).toNat * 12)).block,(ad173.add ((x10_1).toNat * 12)).off + 1,none⟩ = some (.int .i64 ((rd_T32 y141 x10_1).f0.f1)) ∧ w'.cell? ⟨(ad173.add ((x10_1).toNat * 12)).block,(ad173.add ((x10_1).toNat * 12)).off + 2,none⟩ = some (.int .i64 ((rd_T32 y141 x10_1).f0.f2)) ∧ w'.cell? ⟨(ad173.add ((x10_1).toNat * 12)).block,(ad173.add ((x10_1).toNat * 12)).off + 3,none⟩ = some (.int .i64 ((rd_T32 y141 x10_1).f0.f3)) ∧ w'.cell? ⟨(ad173.add ((x10_1).toNat * 12)).block,(ad173.add ((x10_1).toNat * 12)).off + 4,none⟩ = some (.int .i64 ((rd_T32 y141 x10_1).f0.f4)) ∧ w'.cell? ⟨(ad173.add ((x10_1).toNat * 12)).block,(ad173.add ((x10_1).toNat * 12)).off + 5,none⟩ = some (.int .i64 ((rd_T32 y141 x10_1).f0.f5)) ∧ w'.cell? ⟨(ad173.add ((x10_1).toNat * 12)).block,(ad173.add ((x10_1).toNat * 12)).off + 6,none⟩ = some (.int .i64 ((rd_T32 y141 x10_1).f0.f6)) ∧ w'.cell? ⟨(ad173.add ((x10_1).toNat * 12)).block,(ad173.add ((x10_1).toNat * 12)).off + 7,none⟩ = some (.int .i64 ((rd_T32 y141 x10_1).f0.f7)) ∧ w'.cell? ⟨(ad173.add ((x10_1).toNat * 12)).block,(ad173.add ((x10_1).toNat * 12)).off + 8,none⟩ = some (.int .i64 ((rd_T32 y141 x10_1).f0.f8)) ∧ w'.cell? ⟨(ad173.add ((x10_1).toNat * 12)).block,(ad173.add ((x10_1).toNat * 12)).off + 9,none⟩ = some (.int .i64 ((rd_T32 y141 x10_1).f0.f9)) ∧ w'.cell? ⟨(ad173.add ((x10_1).toNat * 12)).block,(ad173.add ((x10_1).toNat * 12)).off + 10,none⟩ = some (.int .i64 ((rd_T32 y141 x10_1).f0.f10)) ∧ w'.cell? ⟨(ad173.add ((x10_1).toNat * 12)).block,(ad173.add ((x10_1).toNat * 12)).off + 11,none⟩ = some (.int .i64 ((rd_T32 y141 x10_1).f0.f11)) ∧ w'.cell? (ad174.add ((x10_1).toNat * 12)) = some (.int .i64 ((rd_T32 l0 x10_1).f0.f0)) ∧ w'.cell? ⟨(ad174.add ((x10_1).toNat * 12)).block,(ad174.add ((x10_1).toNat * 12)).off + 1,none⟩ = some (.int .i64 ((rd_T32 l0 x10_1).f0.f1)) ∧ w'.cell? ⟨(ad174.add ((x10_1).toNat * 12)).block,(ad174.add ((x10_1).toNat * 12)).off + 2,none⟩ = some (.int .i64 ((rd_T32 l0 x10_1).f0.f2)) ∧ w'.cell? ⟨(ad174.add ((x10_1).toNat * 12)).block,(ad174.add ((x10_1).toNat * 12)).off + 3,none⟩ = some (.int .i64 ((rd_T32 l0 x10_1).f0.f3)) ∧ w'.cell? ⟨(ad174.add ((x10_1).toNat * 12)).block,(ad174.add ((x10_1).toNat * 12)).off + 4,none⟩ = some (.int .i64 ((rd_T32 l0 x10_1).f0.f4)) ∧ w'.cell? ⟨(ad174.add ((x10_1).toNat * 12)).block,(ad174.add ((x10_1).toNat * 12)).off + 5,none⟩ = some (.int .i64 ((rd_T32 l0 x10_1).f0.f5)) ∧ w'.cell? ⟨(ad174.add ((x10_1).toNat * 12)).block,(ad174.add ((x10_1).toNat * 12)).off + 6,none⟩ = some (.int .i64 ((rd_T32 l0 x10_1).f0.f6)) ∧ w'.cell? ⟨(ad174.add ((x10_1).toNat * 12)).block,(ad174.add ((x10_1).toNat * 12)).off + 7,none⟩ = some (.int .i64 ((rd_T32 l0 x10_1).f0.f7)) ∧ w'.cell? ⟨(ad174.add ((x10_1).toNat * 12)).block,(ad174.add ((x10_1).toNat * 12)).off + 8,none⟩ = some (.int .i64 ((rd_T32 l0 x10_1).f0.f8)) ∧ w'.cell? ⟨(ad174.add ((x10_1).toNat * 12)).block,(ad174.add ((x10_1).toNat * 12)).off + 9,none⟩ = some (.int .i64 ((rd_T32 l0 x10_1).f0.f9)) ∧ w'.cell? ⟨(ad174.add ((x10_1).toNat * 12)).block,(ad174.add ((x10_1).toNat * 12)).off + 10,none⟩ = some (.int .i64 ((rd_T32 l0 x10_1).f0.f10)) ∧ w'.cell? ⟨(ad174.add ((x10_1).toNat * 12)).block,(ad174.add ((x10_1).toNat * 12)).off + 11,none⟩ = some (.int .i64 ((rd_T32 l0 x10_1).f0.f11))) (ds:=[]) #[false,false,false,false,false,false,false,false,false,false] (by kernel_rfl) rfl rfl ⟨hx173_0,hx173_1,hx173_2,hx173_3,hx173_4,hx173_5,hx173_6,hx173_7,hx173_8,hx173_9,hx173_10,hx173_11,((HB.out.cell (World.block_lt_of_cell? w _ hw174_0)).trans hw174_0),((HB.out.cell (World.block_lt_of_cell? w _ hw174_1)).trans hw174_1),((HB.out.cell (World.block_lt_of_cell? w _ hw174_2)).trans hw174_2),((HB.out.cell (World.block_lt_of_cell? w _ hw174_3)).trans hw174_3),((HB.out.cell (World.block_lt_of_cell? w _ hw174_4)).trans hw174_4),((HB.out.cell (World.block_lt_of_cell? w _ hw174_5)).trans hw174_5),((HB.out.cell (World.block_lt_of_cell? w _ hw174_6)).trans hw174_6),((HB.out.cell (World.block_lt_of_cell? w _ hw174_7)).trans hw174_7),((HB.out.cell (World.block_lt_of_cell? w _ hw174_8)).trans hw174_8),((HB.out.cell (World.block_lt_of_cell? w _ hw174_9)).trans hw174_9),((HB.out.cell (World.block_lt_of_cell? w _ hw174_10)).trans hw174_10),((HB.out.cell (World.block_lt_of_cell? w _ hw174_11)).trans hw174_11)⟩ (fun hHeld => ?_);refine with_tabW arrearslaw8_LedgerTotals.tab12 arrearslaw8_LedgerTotals.bits12 (fun HT_ HW_ => ?_)
           generalize wr.drew = w31 at HO_3 BK137 BK158 BK172 HB hx173_0 hx173_1 hx173_10 hx173_11 hx173_2 hx173_3 hx173_4 hx173_5 hx173_6 hx173_7 hx173_8 hx173_9 hx174_0 hx174_1 hx174_10 hx174_11 hx174_2 hx174_3 hx174_4 hx174_5 hx174_6 hx174_7 hx174_8 hx174_9 hHeld ⊢
           refine pure_ (i:=0) (N:=some 43) (v:=?_) (a' := ?_) #[true,false,false,false,false,false,false,false,false,false] rfl rfl (any_of HT_.out (by kernel_rfl)) (fun _ _ _ h => h) (Or.inl ⟨by rfl,?_⟩) ?_ ?_
           rotate_left
           ·
            intro w'
            go_simp
            with_reducible rfl
           rotate_left
           ·
            simp only [Act.put,List.setIfInBounds_toArray,List.set_cons_zero,List.set_cons_succ,i64_w,i32_w]
            rfl
           refine pure_ (i:=1) (N:=some 44) (v:=?_) (a' := ?_) #[true,true,false,false,false,false,false,false,false,false] rfl rfl (any_of HT_.out (by kernel_rfl)) (fun _ _ _ h => h) (Or.inl ⟨by rfl,?_⟩) ?_ ?_
           rotate_left
           ·
            intro w'
            go_simp
            with_reducible rfl
           rotate_left
           ·
            simp only [Act.put,List.setIfInBounds_toArray,List.set_cons_zero,List.set_cons_succ,i64_w,i32_w]
            rfl
           refine pure_ (i:=2) (N:=some 45) (v:=?_) (a' := ?_) #[true,true,true,false,false,false,false,false,false,false] rfl rfl (any_of HT_.out (by kernel_rfl)) (fun _ _ _ h => h) (Or.inl ⟨by rfl,?_⟩) ?_ ?_
           rotate_left
           ·
            intro w'
            go_simp
            with_reducible rfl
           rotate_left
           ·
            simp only [Act.put,List.setIfInBounds_toArray,List.set_cons_zero,List.set_cons_succ,i64_w,i32_w]
            rfl
           refine pure_ (i:=4) (N:=some 47) (v:=?_) (a' := ?_) #[true,true,true,false,true,false,false,false,false,false] rfl rfl (any_of HT_.out (by kernel_rfl)) (fun _ _ _ h => h) (Or.inl ⟨by rfl,?_⟩) ?_ ?_
           rotate_left
           ·
            intro w'
            go_simp
            with_reducible rfl
           rotate_left
           ·
            simp only [Act.put,List.setIfInBounds_toArray,List.set_cons_zero,List.set_cons_succ,i64_w,i32_w]
            rfl
           refine pure_ (i:=5) (N:=some 48) (v:=?_) (a' := ?_) #[true,true,true,false,true,true,false,false,false,false] rfl rfl (any_of HT_.out (by kernel_rfl)) (fun _ _ _ h => h) (Or.inl ⟨by rfl,?_⟩) ?_ ?_
           rotate_left
           ·
            intro w'
            go_simp
            with_reducible rfl
           rotate_left
           ·
            simp only [Act.put,List.setIfInBounds_toArray,List.set_cons_zero,List.set_cons_succ,i64_w,i32_w]
            rfl
           refine pure_ (i:=6) (N:=some 49) (v:=?_) (a' := ?_) #[true,true,true,false,true,true,true,false,false,false] rfl rfl (any_of HT_.out (by kernel_rfl)) (fun _ _ _ h => h) (Or.inl ⟨by rfl,?_⟩) ?_ ?_
           rotate_left
           ·
            intro w'
            go_simp
            with_reducible rfl
           rotate_left
           ·
            simp only [Act.put,List.setIfInBounds_toArray,List.set_cons_zero,List.set_cons_succ,i64_w,i32_w]
            rfl
           refine take_ (i:=3) (N:=some 46) (v:=?_) (a' := ?_) #[true,true,true,true,true,true,true,false,false,false] rfl rfl (take_ofW HT_.out HW_.out (by kernel_rfl)) (fun _ _ _ h => h) (Or.inl ⟨by rfl,?_⟩) hHeld ?_ ?_
           rotate_left
           ·
            rintro w' ⟨s0,s1,s2,s3,s4,s5,s6,s7,s8,s9,s10,s11,s12,s13,s14,s15,s16,s17,s18,s19,s20,s21,s22,s23⟩
            go_simp
            with_reducible rfl
           rotate_left
           ·
            simp only [Act.put,List.setIfInBounds_toArray,List.set_cons_zero,List.set_cons_succ,i64_w,i32_w]
            rfl
           refine take_ (i:=7) (N:=some 50) (v:=?_) (a' := ?_) #[true,true,true,true,true,true,true,true,false,false] rfl rfl (take_ofW HT_.out HW_.out (by kernel_rfl)) (fun _ _ _ h => h) (Or.inl ⟨by rfl,?_⟩) hHeld ?_ ?_
           rotate_left
           ·
            rintro w' ⟨s0,s1,s2,s3,s4,s5,s6,s7,s8,s9,s10,s11,s12,s13,s14,s15,s16,s17,s18,s19,s20,s21,s22,s23⟩
            go_simp
            with_reducible rfl
           rotate_left
           ·
            simp only [Act.put,List.setIfInBounds_toArray,List.set_cons_zero,List.set_cons_succ,i64_w,i32_w]
            rfl
           refine one_ (i:=8) (N:=some 51) #[true,true,true,true,true,true,true,true,true,false] rfl rfl (one_of HT_.out (by kernel_rfl)) (by decide) (fun K hK => ?_)
           refine goes_ Try.func16 (by kernel_rfl) rfl #[.agg #[.int .i64 ((rd_T32 y141 x10_1).f0.f0), .int .i64 ((rd_T32 y141 x10_1).f0.f1), .int .i64 ((rd_T32 y141 x10_1).f0.f2), .int .i64 ((rd_T32 y141 x10_1).f0.f3), .int .i64 ((rd_T32 y141 x10_1).f0.f4), .int .i64 ((rd_T32 y141 x10_1).f0.f5), .int .i64 ((rd_T32 y141 x10_1).f0.f6), .int .i64 ((rd_T32 y141 x10_1).f0.f7), .int .i64 ((rd_T32 y141 x10_1).f0.f8), .int .i64 ((rd_T32 y141 x10_1).f0.f9), .int .i64 ((rd_T32 y141 x10_1).f0.f10), .int .i64 ((rd_T32 y141 x10_1).f0.f11)], .agg #[.int .i64 ((rd_T32 l0 x10_1).f0.f0), .int .i64 ((rd_T32 l0 x10_1).f0.f1), .int .i64 ((rd_T32 l0 x10_1).f0.f2), .int .i64 ((rd_T32 l0 x10_1).f0.f3), .int .i64 ((rd_T32 l0 x10_1).f0.f4), .int .i64 ((rd_T32 l0 x10_1).f0.f5), .int .i64 ((rd_T32 l0 x10_1).f0.f6), .int .i64 ((rd_T32 l0 x10_1).f0.f7), .int .i64 ((rd_T32 l0 x10_1).f0.f8), .int .i64 ((rd_T32 l0 x10_1).f0.f9), .int .i64 ((rd_T32 l0 x10_1).f0.f10), .int .i64 ((rd_T32 l0 x10_1).f0.f11)]] (by rfl) rfl rfl (by (try simp only [List.map_toArray,List.map_cons,List.map_nil]);first | done | rfl | (simp only [List.length_drop,List.length_take];rfl)) ?_
           with_reducible refine (arrearslaw8_same.calls k1 ((rd_T32 y141 x10_1).f0.f0) ((rd_T32 y141 x10_1).f0.f1) ((rd_T32 y141 x10_1).f0.f2) ((rd_T32 y141 x10_1).f0.f3) ((rd_T32 y141 x10_1).f0.f4) ((rd_T32 y141 x10_1).f0.f5) ((rd_T32 y141 x10_1).f0.f6) ((rd_T32 y141 x10_1).f0.f7) ((rd_T32 y141 x10_1).f0.f8) ((rd_T32 y141 x10_1).f0.f9) ((rd_T32 y141 x10_1).f0.f10) ((rd_T32 y141 x10_1).f0.f11) ((rd_T32 l0 x10_1).f0.f0) ((rd_T32 l0 x10_1).f0.f1) ((rd_T32 l0 x10_1).f0.f2) ((rd_T32 l0 x10_1).f0.f3) ((rd_T32 l0 x10_1).f0.f4) ((rd_T32 l0 x10_1).f0.f5) ((rd_T32 l0 x10_1).f0.f6) ((rd_T32 l0 x10_1).f0.f7) ((rd_T32 l0 x10_1).f0.f8) ((rd_T32 l0 x10_1).f0.f9) ((rd_T32 l0 x10_1).f0.f10) ((rd_T32 l0 x10_1).f0.f11) true _ A29.out).mono ?_
           rintro e w32 ⟨rfl,hb⟩
           refine ⟨_,rfl,?_⟩
           have hz173_0 := (hb.cell (World.block_lt_of_cell? _ _ hx173_0)).trans hx173_0
           have hz173_1 := (hb.cell (World.block_lt_of_cell? _ _ hx173_1)).trans hx173_1
           have hz173_2 := (hb.cell (World.block_lt_of_cell? _ _ hx173_2)).trans hx173_2
           have hz173_3 := (hb.cell (World.block_lt_of_cell? _ _ hx173_3)).trans hx173_3
           have hz173_4 := (hb.cell (World.block_lt_of_cell? _ _ hx173_4)).trans hx173_4
           have hz173_5 := (hb.cell (World.block_lt_of_cell? _ _ hx173_5)).trans hx173_5
           have hz173_6 := (hb.cell (World.block_lt_of_cell? _ _ hx173_6)).trans hx173_6
           have hz173_7 := (hb.cell (World.block_lt_of_cell? _ _ hx173_7)).trans hx173_7
           have hz173_8 := (hb.cell (World.block_lt_of_cell? _ _ hx173_8)).trans hx173_8
           have hz173_9 := (hb.cell (World.block_lt_of_cell? _ _ hx173_9)).trans hx173_9
           have hz173_10 := (hb.cell (World.block_lt_of_cell? _ _ hx173_10)).trans hx173_10
           have hz173_11 := (hb.cell (World.block_lt_of_cell? _ _ hx173_11)).trans hx173_11
           have n0_ := Aside0.mk (Kd.R_below (by (with_reducible repeat (first | apply Kd.R_alloc | apply Kd.R_drewN | apply Kd.R_drew));exact HO_3.out) hb)
           have n1_ := Aside0.mk (blk_below (g:=gb137) (o:=.cells #[.int .i64 0, .int .i64 0, .int .i64 0, .int .i64 0, .int .i64 0, .int .i64 (-77), .int .i64 0, .int .i64 0, .int .i64 0, .int .i64 0, .int .i64 0, .int .i64 0] 32 (0,0)) (by (with_reducible repeat (first | refine blk_drewN ?_ _ | refine blk_drew ?_ | refine blk_alloc ?_ _));exact BK137.out) hb)
           have n2_ := Aside0.mk (blk_below (g:=gb158) (o:=.cells #[.int .i64 t145, .int .i64 t146, .int .i64 t147, .int .i64 t148, .int .i64 t149, .int .i64 t150, .int .i64 t151, .int .i64 t152, .int .i64 t153, .int .i64 t154, .int .i64 t155, .int .i64 t156] 32 (0,0)) (by (with_reducible repeat (first | refine blk_drewN ?_ _ | refine blk_drew ?_ | refine blk_alloc ?_ _));exact BK158.out) hb)
           have n3_ := Aside0.mk (blk_below (g:=gb172) (o:=.cells #[.int .i64 t159, .int .i64 t160, .int .i64 t161, .int .i64 t162, .int .i64 t163, .int .i64 t164, .int .i64 t165, .int .i64 t166, .int .i64 t167, .int .i64 t168, .int .i64 t169, .int .i64 t170] 32 (0,0)) (by (with_reducible repeat (first | refine blk_drewN ?_ _ | refine blk_drew ?_ | refine blk_alloc ?_ _));exact BK172.out) hb)
           have n4_ := Aside0.mk (below_step (by repeat (first | (with_reducible first | exact HB.out | apply below_alloc | apply pw_below_drewN | apply below_drew1 | refine below_set ?_ (Aside0.out (by assumption))) | exact HB.out)) hb)
           clear HO_3
           clear BK137
           clear BK158
           clear BK172
           clear HB
           have HO_3 := n0_
           have BK137 := n1_
           have BK158 := n2_
           have BK172 := n3_
           have HB := n4_
           clear n0_ n1_ n2_ n3_ n4_
           (try clear hb)
           (try clear hb2)
           (try clear hk)
           (try clear hi)
           refine hK.out _ _ ⟨hz173_0,hz173_1,hz173_2,hz173_3,hz173_4,hz173_5,hz173_6,hz173_7,hz173_8,hz173_9,hz173_10,hz173_11,((HB.out.cell (World.block_lt_of_cell? w _ hw174_0)).trans hw174_0),((HB.out.cell (World.block_lt_of_cell? w _ hw174_1)).trans hw174_1),((HB.out.cell (World.block_lt_of_cell? w _ hw174_2)).trans hw174_2),((HB.out.cell (World.block_lt_of_cell? w _ hw174_3)).trans hw174_3),((HB.out.cell (World.block_lt_of_cell? w _ hw174_4)).trans hw174_4),((HB.out.cell (World.block_lt_of_cell? w _ hw174_5)).trans hw174_5),((HB.out.cell (World.block_lt_of_cell? w _ hw174_6)).trans hw174_6),((HB.out.cell (World.block_lt_of_cell? w _ hw174_7)).trans hw174_7),((HB.out.cell (World.block_lt_of_cell? w _ hw174_8)).trans hw174_8),((HB.out.cell (World.block_lt_of_cell? w _ hw174_9)).trans hw174_9),((HB.out.cell (World.block_lt_of_cell? w _ hw174_10)).trans hw174_10),((HB.out.cell (World.block_lt_of_cell? w _ hw174_11)).trans hw174_11)⟩ (fun hHeld => ?_)
           clear hK K
           refine norm_ (a' := ?_) ?_ ?_
           rotate_left
           ·
            show Act.put _ (some 51) _ = _
            simp only [Act.put,List.setIfInBounds_toArray,List.set_cons_zero,List.set_cons_succ,i64_w,i32_w]
            rfl
           refine pure_ (i:=9) (N:=some 52) (v:=?_) (a' := ?_) #[true,true,true,true,true,true,true,true,true,true] rfl rfl (any_of HT_.out (by kernel_rfl)) (fun _ _ _ h => h) (Or.inl ⟨by rfl,?_⟩) ?_ ?_
           rotate_left
           ·
            intro w'
            go_simp
            with_reducible rfl
           rotate_left
           ·
            simp only [Act.put,List.setIfInBounds_toArray,List.set_cons_zero,List.set_cons_succ,i64_w,i32_w]
            rfl
           refine done_ (done_of HT_.out (by kernel_rfl)) ?_
           try go_wp2
           go_roundg k1
           case measure => have := HK1.out;omega
           case rel => exact ⟨(wrap64 (x10_1 + 1)),(by first | rfl | (simp;done) | (simp [*];done)),H',⟨by have := HK1.out;omega⟩,⟨by (with_reducible repeat (first | apply Kd.R_alloc | apply Kd.R_drewN | apply Kd.R_drew));exact HO_3.out⟩,⟨by (with_reducible repeat (first | refine blk_drewN ?_ _ | refine blk_drew ?_ | refine blk_alloc ?_ _));exact BK137.out⟩,⟨by (with_reducible repeat (first | refine blk_drewN ?_ _ | refine blk_drew ?_ | refine blk_alloc ?_ _));exact BK158.out⟩,⟨by (with_reducible repeat (first | refine blk_drewN ?_ _ | refine blk_drew ?_ | refine blk_alloc ?_ _));exact BK172.out⟩,⟨by repeat (first | (with_reducible first | exact HB.out | apply below_alloc | apply pw_below_drewN | apply below_drew1 | refine below_set ?_ (Aside0.out (by assumption))) | exact HB.out)⟩⟩
          ·
           replace c30 := Bool.eq_false_iff.mpr c30
           subst c30
           have H1 : (none) = some r := by rw [if_neg (show ¬ (false = true) by decide)] at H;exact H
           clear H
           have H := H1
           clear H1
           exact absurd H (by simp)
         ·
          rw [if_neg c28] at H
          exact absurd H (by simp)
        ·
         rw [if_neg c27] at H
         exact absurd H (by simp)
       ·
        rw [if_neg c26] at H
        have c26b0 : decide (x10_1 < (l0.length : Int)) = false := decide_eq_false c26
        clear c26
        have HC33 := Aside0.mk H
        clear H
        go_upto_region 14 with (fail)
        go_cut [71] (fun v71 wc => ∃ (kq : Nat) (x71_32 : Bool),v71 = .bool x71_32 ∧ Aside0 (arrearslaw8_LedgerTotals.j1 kq l0 y138 y141 x71_32 = some r) ∧ Aside0 (kq ≤ k1) ∧ Aside0 (Kd.R k32 32 wc w.heap.size (fun k_ => k_ ≠ gb137 ∧ k_ ≠ gb158 ∧ k_ ≠ gb172) (.slice Ao15 y138.length co15) y138) ∧ Aside0 (wc.heap[gb137]? = some (.cells #[.int .i64 0, .int .i64 0, .int .i64 0, .int .i64 0, .int .i64 0, .int .i64 (-77), .int .i64 0, .int .i64 0, .int .i64 0, .int .i64 0, .int .i64 0, .int .i64 0] 32 (0,0))) ∧ Aside0 (wc.heap[gb158]? = some (.cells #[.int .i64 t145, .int .i64 t146, .int .i64 t147, .int .i64 t148, .int .i64 t149, .int .i64 t150, .int .i64 t151, .int .i64 t152, .int .i64 t153, .int .i64 t154, .int .i64 t155, .int .i64 t156] 32 (0,0))) ∧ Aside0 (wc.heap[gb172]? = some (.cells #[.int .i64 t159, .int .i64 t160, .int .i64 t161, .int .i64 t162, .int .i64 t163, .int .i64 t164, .int .i64 t165, .int .i64 t166, .int .i64 t167, .int .i64 t168, .int .i64 t169, .int .i64 t170] 32 (0,0))) ∧ Aside0 (Below w.heap.size w wc))
        case first =>
         have H := HC33.out
         clear HC33
         replace H := Option.bind_eq_some_iff.mp H
         obtain ⟨t176,A340,H⟩ := H
         replace H : (if t176 = true then (if (t157 != t171) = true then (arrearslaw8_LedgerTotals.j1 k1 l0 y138 y141 true) else (if 0 ≤ (l0.length : Int) then (if (l0.length : Int) < (y138.length : Int) then ((arrearslaw8_same.f k1 ((rd_T32 y138 (l0.length : Int)).f0.f0) ((rd_T32 y138 (l0.length : Int)).f0.f1) ((rd_T32 y138 (l0.length : Int)).f0.f2) ((rd_T32 y138 (l0.length : Int)).f0.f3) ((rd_T32 y138 (l0.length : Int)).f0.f4) ((rd_T32 y138 (l0.length : Int)).f0.f5) ((rd_T32 y138 (l0.length : Int)).f0.f6) ((rd_T32 y138 (l0.length : Int)).f0.f7) ((rd_T32 y138 (l0.length : Int)).f0.f8) ((rd_T32 y138 (l0.length : Int)).f0.f9) ((rd_T32 y138 (l0.length : Int)).f0.f10) ((rd_T32 y138 (l0.length : Int)).f0.f11) 0 0 0 0 0 (-77) 0 0 0 0 0 0).bind fun t178 => (arrearslaw8_LedgerTotals.j1 k1 l0 y138 y141 (!t178))) else (none)) else (none))) else (arrearslaw8_LedgerTotals.j1 k1 l0 y138 y141 true)) = some r := H
         have A34 := Aside0.mk A340
         clear A340
         by_cases c35 : t176 = true
         ·
          subst c35
          have H1 : (if (t157 != t171) = true then (arrearslaw8_LedgerTotals.j1 k1 l0 y138 y141 true) else (if 0 ≤ (l0.length : Int) then (if (l0.length : Int) < (y138.length : Int) then ((arrearslaw8_same.f k1 ((rd_T32 y138 (l0.length : Int)).f0.f0) ((rd_T32 y138 (l0.length : Int)).f0.f1) ((rd_T32 y138 (l0.length : Int)).f0.f2) ((rd_T32 y138 (l0.length : Int)).f0.f3) ((rd_T32 y138 (l0.length : Int)).f0.f4) ((rd_T32 y138 (l0.length : Int)).f0.f5) ((rd_T32 y138 (l0.length : Int)).f0.f6) ((rd_T32 y138 (l0.length : Int)).f0.f7) ((rd_T32 y138 (l0.length : Int)).f0.f8) ((rd_T32 y138 (l0.length : Int)).f0.f9) ((rd_T32 y138 (l0.length : Int)).f0.f10) ((rd_T32 y138 (l0.length : Int)).f0.f11) 0 0 0 0 0 (-77) 0 0 0 0 0 0).bind fun t178 => (arrearslaw8_LedgerTotals.j1 k1 l0 y138 y141 (!t178))) else (none)) else (none))) = some r := by rw [if_pos rfl] at H;exact H
          clear H
          have H := H1
          clear H1
          by_cases c36 : (t157 != t171) = true
          ·
           rw [if_pos c36] at H
           have c36b0 : (t157 != t171) = true := c36
           (try (have c36b1 : decide (t157 = t171) = false := by simpa using c36))
           (try (have c36b2 : (t157 == t171) = false := by simpa using c36))
           (try (have c36b3 : ¬ (t157 = t171) := by simpa using c36))
           clear c36
           (first | rw [c36b0] | (simp only [i64_w,i32_w];rw [c36b0]) | skip)
           have H' := Aside0.mk H
           clear H
           try go_wp2
           have n0_ := Aside0.mk (Kd.R_drew HO_3.out)
           have n1_ := Aside0.mk (blk_drew BK137.out)
           have n2_ := Aside0.mk (blk_drew BK158.out)
           have n3_ := Aside0.mk (blk_drew BK172.out)
           have n4_ := Aside0.mk (below_drew1 HB.out)
           clear HO_3
           clear BK137
           clear BK158
           clear BK172
           clear HB
           have HO_3 := n0_
           have BK137 := n1_
           have BK158 := n2_
           have BK172 := n3_
           have HB := n4_
           clear n0_ n1_ n2_ n3_ n4_
           refine start_ (n:=19) (S:=fun w' => w'.cell? ⟨gb158,0,none⟩ = some (.int .i64 t145) ∧ w'.cell? ⟨gb158,1,none⟩ = some (.int .i64 t146) ∧ w'.cell? ⟨gb158,2,none⟩ = some (.int .i64 t147) ∧ w'.cell? ⟨gb158,3,none⟩ = some (.int .i64 t148) ∧ w'.cell? ⟨gb158,4,none⟩ = some (.int .i64 t149) ∧ w'.cell? ⟨gb158,5,none⟩ = some (.int .i64 t150) ∧ w'.cell? ⟨gb158,6,none⟩ = some (.int .i64 t151) ∧ w'.cell? ⟨gb158,7,none⟩ = some (.int .i64 t152) ∧ w'.cell? ⟨gb158,8,none⟩ = some (.int .i64 t153) ∧ w'.cell? ⟨gb158,9,none⟩ = some (.int .i64 t154) ∧ w'.cell? ⟨gb158,10,none⟩ = some (.int .i64 t155) ∧ w'.cell? ⟨gb158,11,none⟩ = some (.int .i64 t156) ∧ w'.cell? ⟨gb172,0,none⟩ = some (.int .i64 t159) ∧ w'.cell? ⟨gb172,1,none⟩ = some (.int .i64 t160) ∧ w'.cell? ⟨gb172,2,none⟩ = some (.int .i64 t161) ∧ w'.cell? ⟨gb172,3,none⟩ = some (.int .i64 t162) ∧ w'.cell? ⟨gb172,4,none⟩ = some (.int .i64 t163) ∧ w'.cell? ⟨gb172,5,none⟩ = some (.int .i64 t164) ∧ w'.cell? ⟨gb172,6,none⟩ = some (.int .i64 t165) ∧ w'.cell? ⟨gb172,7,none⟩ = some (.int .i64 t166) ∧ w'.cell? ⟨gb172,8,none⟩ = some (.int .i64 t167) ∧ w'.cell? ⟨gb172,9,none⟩ = some (.int .i64 t168) ∧ w'.cell? ⟨gb172,10,none⟩ = some (.int .i64 t169) ∧ w'.cell? ⟨gb172,11,none⟩ = some (.int .i64 t170)) (ds:=[]) #[false,false,false,false,false,false,false,false,false,false,false,false,false,false,false,false,false,false,false] (by kernel_rfl) rfl rfl ⟨(blk_cell BK158.out 0).trans rfl,(blk_cell BK158.out 1).trans rfl,(blk_cell BK158.out 2).trans rfl,(blk_cell BK158.out 3).trans rfl,(blk_cell BK158.out 4).trans rfl,(blk_cell BK158.out 5).trans rfl,(blk_cell BK158.out 6).trans rfl,(blk_cell BK158.out 7).trans rfl,(blk_cell BK158.out 8).trans rfl,(blk_cell BK158.out 9).trans rfl,(blk_cell BK158.out 10).trans rfl,(blk_cell BK158.out 11).trans rfl,(blk_cell BK172.out 0).trans rfl,(blk_cell BK172.out 1).trans rfl,(blk_cell BK172.out 2).trans rfl,(blk_cell BK172.out 3).trans rfl,(blk_cell BK172.out 4).trans rfl,(blk_cell BK172.out 5).trans rfl,(blk_cell BK172.out 6).trans rfl,(blk_cell BK172.out 7).trans rfl,(blk_cell BK172.out 8).trans rfl,(blk_cell BK172.out 9).trans rfl,(blk_cell BK172.out 10).trans rfl,(blk_cell BK172.out 11).trans rfl⟩ (fun hHeld => ?_);refine with_tabW arrearslaw8_LedgerTotals.tab14 arrearslaw8_LedgerTotals.bits14 (fun HT_ HW_ => ?_)
           generalize wr.drew = w37 at HO_3 BK137 BK158 BK172 HB hHeld ⊢
           refine take_ (i:=0) (N:=some 53) (v:=?_) (a' := ?_) #[true,false,false,false,false,false,false,false,false,false,false,false,false,false,false,false,false,false,false] rfl rfl (take_ofW HT_.out HW_.out (by kernel_rfl)) (fun _ _ _ h => h) (Or.inl ⟨by rfl,?_⟩) hHeld ?_ ?_
           rotate_left
           ·
            rintro w' ⟨s0,s1,s2,s3,s4,s5,s6,s7,s8,s9,s10,s11,s12,s13,s14,s15,s16,s17,s18,s19,s20,s21,s22,s23⟩
            go_simp
            with_reducible rfl
           rotate_left
           ·
            simp only [Act.put,List.setIfInBounds_toArray,List.set_cons_zero,List.set_cons_succ,i64_w,i32_w]
            rfl
           refine take_ (i:=1) (N:=some 54) (v:=?_) (a' := ?_) #[true,true,false,false,false,false,false,false,false,false,false,false,false,false,false,false,false,false,false] rfl rfl (take_ofW HT_.out HW_.out (by kernel_rfl)) (fun _ _ _ h => h) (Or.inl ⟨by rfl,?_⟩) hHeld ?_ ?_
           rotate_left
           ·
            rintro w' ⟨s0,s1,s2,s3,s4,s5,s6,s7,s8,s9,s10,s11,s12,s13,s14,s15,s16,s17,s18,s19,s20,s21,s22,s23⟩
            go_simp
            with_reducible rfl
           rotate_left
           ·
            simp only [Act.put,List.setIfInBounds_toArray,List.set_cons_zero,List.set_cons_succ,i64_w,i32_w]
            rfl
           refine one_ (i:=2) (N:=some 55) #[true,true,true,false,false,false,false,false,false,false,false,false,false,false,false,false,false,false,false] rfl rfl (one_of HT_.out (by kernel_rfl)) (by decide) (fun K hK => ?_)
           refine goes_ Try.func16 (by kernel_rfl) rfl #[.agg #[.int .i64 t145, .int .i64 t146, .int .i64 t147, .int .i64 t148, .int .i64 t149, .int .i64 t150, .int .i64 t151, .int .i64 t152, .int .i64 t153, .int .i64 t154, .int .i64 t155, .int .i64 t156], .agg #[.int .i64 t159, .int .i64 t160, .int .i64 t161, .int .i64 t162, .int .i64 t163, .int .i64 t164, .int .i64 t165, .int .i64 t166, .int .i64 t167, .int .i64 t168, .int .i64 t169, .int .i64 t170]] (by rfl) rfl rfl (by (try simp only [List.map_toArray,List.map_cons,List.map_nil]);first | done | rfl | (simp only [List.length_drop,List.length_take];rfl)) ?_
           with_reducible refine (arrearslaw8_same.calls k1 t145 t146 t147 t148 t149 t150 t151 t152 t153 t154 t155 t156 t159 t160 t161 t162 t163 t164 t165 t166 t167 t168 t169 t170 true _ A34.out).mono ?_
           rintro e w38 ⟨rfl,hb⟩
           refine ⟨_,rfl,?_⟩
           have n0_ := Aside0.mk (Kd.R_below (by (with_reducible repeat (first | apply Kd.R_alloc | apply Kd.R_drewN | apply Kd.R_drew));exact HO_3.out) hb)
           have n1_ := Aside0.mk (blk_below (g:=gb137) (o:=.cells #[.int .i64 0, .int .i64 0, .int .i64 0, .int .i64 0, .int .i64 0, .int .i64 (-77), .int .i64 0, .int .i64 0, .int .i64 0, .int .i64 0, .int .i64 0, .int .i64 0] 32 (0,0)) (by (with_reducible repeat (first | refine blk_drewN ?_ _ | refine blk_drew ?_ | refine blk_alloc ?_ _));exact BK137.out) hb)
           have n2_ := Aside0.mk (blk_below (g:=gb158) (o:=.cells #[.int .i64 t145, .int .i64 t146, .int .i64 t147, .int .i64 t148, .int .i64 t149, .int .i64 t150, .int .i64 t151, .int .i64 t152, .int .i64 t153, .int .i64 t154, .int .i64 t155, .int .i64 t156] 32 (0,0)) (by (with_reducible repeat (first | refine blk_drewN ?_ _ | refine blk_drew ?_ | refine blk_alloc ?_ _));exact BK158.out) hb)
           have n3_ := Aside0.mk (blk_below (g:=gb172) (o:=.cells #[.int .i64 t159, .int .i64 t160, .int .i64 t161, .int .i64 t162, .int .i64 t163, .int .i64 t164, .int .i64 t165, .int .i64 t166, .int .i64 t167, .int .i64 t168, .int .i64 t169, .int .i64 t170] 32 (0,0)) (by (with_reducible repeat (first | refine blk_drewN ?_ _ | refine blk_drew ?_ | refine blk_alloc ?_ _));exact BK172.out) hb)
           have n4_ := Aside0.mk (below_step (by repeat (first | (with_reducible first | exact HB.out | apply below_alloc | apply pw_below_drewN | apply below_drew1 | refine below_set ?_ (Aside0.out (by assumption))) | exact HB.out)) hb)
           clear HO_3
           clear BK137
           clear BK158
           clear BK172
           clear HB
           have HO_3 := n0_
           have BK137 := n1_
           have BK158 := n2_
           have BK172 := n3_
           have HB := n4_
           clear n0_ n1_ n2_ n3_ n4_
           (try clear hb)
           (try clear hb2)
           (try clear hk)
           (try clear hi)
           refine hK.out _ _ ⟨(blk_cell BK158.out 0).trans rfl,(blk_cell BK158.out 1).trans rfl,(blk_cell BK158.out 2).trans rfl,(blk_cell BK158.out 3).trans rfl,(blk_cell BK158.out 4).trans rfl,(blk_cell BK158.out 5).trans rfl,(blk_cell BK158.out 6).trans rfl,(blk_cell BK158.out 7).trans rfl,(blk_cell BK158.out 8).trans rfl,(blk_cell BK158.out 9).trans rfl,(blk_cell BK158.out 10).trans rfl,(blk_cell BK158.out 11).trans rfl,(blk_cell BK172.out 0).trans rfl,(blk_cell BK172.out 1).trans rfl,(blk_cell BK172.out 2).trans rfl,(blk_cell BK172.out 3).trans rfl,(blk_cell BK172.out 4).trans rfl,(blk_cell BK172.out 5).trans rfl,(blk_cell BK172.out 6).trans rfl,(blk_cell BK172.out 7).trans rfl,(blk_cell BK172.out 8).trans rfl,(blk_cell BK172.out 9).trans rfl,(blk_cell BK172.out 10).trans rfl,(blk_cell BK172.out 11).trans rfl⟩ (fun hHeld => ?_)
           clear hK K
           refine norm_ (a' := ?_) ?_ ?_
           rotate_left
           ·
            show Act.put _ (some 55) _ = _
            simp only [Act.put,List.setIfInBounds_toArray,List.set_cons_zero,List.set_cons_succ,i64_w,i32_w]
            rfl
           refine pure_ (i:=3) (N:=some 56) (v:=?_) (a' := ?_) #[true,true,true,true,false,false,false,false,false,false,false,false,false,false,false,false,false,false,false] rfl rfl (any_of HT_.out (by kernel_rfl)) (fun _ _ _ h => h) (Or.inl ⟨by rfl,?_⟩) ?_ ?_
           rotate_left
           ·
            intro w'
            go_simp
            with_reducible rfl
           rotate_left
           ·
            simp only [Act.put,List.setIfInBounds_toArray,List.set_cons_zero,List.set_cons_succ,i64_w,i32_w]
            rfl
           refine pure_ (i:=4) (N:=some 57) (v:=?_) (a' := ?_) #[true,true,true,true,true,false,false,false,false,false,false,false,false,false,false,false,false,false,false] rfl rfl (any_of HT_.out (by kernel_rfl)) (fun _ _ _ h => h) (Or.inl ⟨by rfl,?_⟩) ?_ ?_
           rotate_left
           ·
            intro w'
            go_simp
            with_reducible rfl
           rotate_left
           ·
            simp only [Act.put,List.setIfInBounds_toArray,List.set_cons_zero,List.set_cons_succ,i64_w,i32_w]
            rfl
           refine pure_ (i:=5) (N:=some 58) (v:=?_) (a' := ?_) #[true,true,true,true,true,true,false,false,false,false,false,false,false,false,false,false,false,false,false] rfl rfl (any_of HT_.out (by kernel_rfl)) (fun _ _ _ h => h) (Or.inl ⟨by rfl,?_⟩) ?_ ?_
           rotate_left
           ·
            intro w'
            go_simp
            with_reducible rfl
           rotate_left
           ·
            simp only [Act.put,List.setIfInBounds_toArray,List.set_cons_zero,List.set_cons_succ,i64_w,i32_w]
            rfl
           refine pure_ (i:=6) (N:=some 59) (v:=?_) (a' := ?_) #[true,true,true,true,true,true,true,false,false,false,false,false,false,false,false,false,false,false,false] rfl rfl (any_of HT_.out (by kernel_rfl)) (fun _ _ _ h => h) (Or.inl ⟨by rfl,?_⟩) ?_ ?_
           rotate_left
           ·
            intro w'
            go_simp
            with_reducible rfl
           rotate_left
           ·
            simp only [Act.put,List.setIfInBounds_toArray,List.set_cons_zero,List.set_cons_succ,i64_w,i32_w]
            rfl
           refine pure_ (i:=7) (N:=some 60) (v:=?_) (a' := ?_) #[true,true,true,true,true,true,true,true,false,false,false,false,false,false,false,false,false,false,false] rfl rfl (any_of HT_.out (by kernel_rfl)) (fun _ _ _ h => h) (Or.inl ⟨by rfl,?_⟩) ?_ ?_
           rotate_left
           ·
            intro w'
            go_simp
            with_reducible rfl
           rotate_left
           ·
            simp only [Act.put,List.setIfInBounds_toArray,List.set_cons_zero,List.set_cons_succ,i64_w,i32_w]
            rfl
           refine pure_ (i:=8) (N:=some 61) (v:=?_) (a' := ?_) #[true,true,true,true,true,true,true,true,true,false,false,false,false,false,false,false,false,false,false] rfl rfl (any_of HT_.out (by kernel_rfl)) (fun _ _ _ h => h) (Or.inl ⟨by rfl,?_⟩) ?_ ?_
           rotate_left
           ·
            intro w'
            go_simp
            with_reducible rfl
           rotate_left
           ·
            simp only [Act.put,List.setIfInBounds_toArray,List.set_cons_zero,List.set_cons_succ,i64_w,i32_w]
            rfl
           refine pure_ (i:=9) (N:=some 62) (v:=?_) (a' := ?_) #[true,true,true,true,true,true,true,true,true,true,false,false,false,false,false,false,false,false,false] rfl rfl (any_of HT_.out (by kernel_rfl)) (fun _ _ _ h => h) (Or.inl ⟨by rfl,?_⟩) ?_ ?_
           rotate_left
           ·
            intro w'
            go_simp
            with_reducible rfl
           rotate_left
           ·
            simp only [Act.put,List.setIfInBounds_toArray,List.set_cons_zero,List.set_cons_succ,i64_w,i32_w]
            rfl
           refine pure_ (i:=10) (N:=some 63) (v:=undef) (a' := ?_) #[true,true,true,true,true,true,true,true,true,true,true,false,false,false,false,false,false,false,false] rfl rfl (any_of HT_.out (by kernel_rfl)) (fun _ _ _ h => h) (Or.inr ⟨by rfl,rfl⟩) ?_ ?_
           rotate_left
           ·
            simp only [Act.put,List.setIfInBounds_toArray,List.set_cons_zero,List.set_cons_succ,i64_w,i32_w]
            rfl
           refine pure_ (i:=11) (N:=some 64) (v:=undef) (a' := ?_) #[true,true,true,true,true,true,true,true,true,true,true,true,false,false,false,false,false,false,false] rfl rfl (any_of HT_.out (by kernel_rfl)) (fun _ _ _ h => h) (Or.inr ⟨by rfl,rfl⟩) ?_ ?_
           rotate_left
           ·
            simp only [Act.put,List.setIfInBounds_toArray,List.set_cons_zero,List.set_cons_succ,i64_w,i32_w]
            rfl
           refine pure_ (i:=12) (N:=some 65) (v:=undef) (a' := ?_) #[true,true,true,true,true,true,true,true,true,true,true,true,true,false,false,false,false,false,false] rfl rfl (any_of HT_.out (by kernel_rfl)) (fun _ _ _ h => h) (Or.inr ⟨by rfl,rfl⟩) ?_ ?_
           rotate_left
           ·
            simp only [Act.put,List.setIfInBounds_toArray,List.set_cons_zero,List.set_cons_succ,i64_w,i32_w]
            rfl
           refine pure_ (i:=13) (N:=some 66) (v:=undef) (a' := ?_) #[true,true,true,true,true,true,true,true,true,true,true,true,true,true,false,false,false,false,false] rfl rfl (any_of HT_.out (by kernel_rfl)) (fun _ _ _ h => h) (Or.inr ⟨by rfl,rfl⟩) ?_ ?_
           rotate_left
           ·
            simp only [Act.put,List.setIfInBounds_toArray,List.set_cons_zero,List.set_cons_succ,i64_w,i32_w]
            rfl
           refine pure_ (i:=14) (N:=some 67) (v:=undef) (a' := ?_) #[true,true,true,true,true,true,true,true,true,true,true,true,true,true,true,false,false,false,false] rfl rfl (any_of HT_.out (by kernel_rfl)) (fun _ _ _ h => h) (Or.inr ⟨by rfl,rfl⟩) ?_ ?_
           rotate_left
           ·
            simp only [Act.put,List.setIfInBounds_toArray,List.set_cons_zero,List.set_cons_succ,i64_w,i32_w]
            rfl
           refine pure_ (i:=15) (N:=some 68) (v:=undef) (a' := ?_) #[true,true,true,true,true,true,true,true,true,true,true,true,true,true,true,true,false,false,false] rfl rfl (any_of HT_.out (by kernel_rfl)) (fun _ _ _ h => h) (Or.inr ⟨by rfl,rfl⟩) ?_ ?_
           rotate_left
           ·
            simp only [Act.put,List.setIfInBounds_toArray,List.set_cons_zero,List.set_cons_succ,i64_w,i32_w]
            rfl
           refine pure_ (i:=16) (N:=some 69) (v:=undef) (a' := ?_) #[true,true,true,true,true,true,true,true,true,true,true,true,true,true,true,true,true,false,false] rfl rfl (any_of HT_.out (by kernel_rfl)) (fun _ _ _ h => h) (Or.inr ⟨by rfl,rfl⟩) ?_ ?_
           rotate_left
           ·
            simp only [Act.put,List.setIfInBounds_toArray,List.set_cons_zero,List.set_cons_succ,i64_w,i32_w]
            rfl
           refine pure_ (i:=17) (N:=some 70) (v:=undef) (a' := ?_) #[true,true,true,true,true,true,true,true,true,true,true,true,true,true,true,true,true,true,false] rfl rfl (any_of HT_.out (by kernel_rfl)) (fun _ _ _ h => h) (Or.inr ⟨by rfl,rfl⟩) ?_ ?_
           rotate_left
           ·
            simp only [Act.put,List.setIfInBounds_toArray,List.set_cons_zero,List.set_cons_succ,i64_w,i32_w]
            rfl
           refine pure_ (i:=18) (N:=some 71) (v:=?_) (a' := ?_) #[true,true,true,true,true,true,true,true,true,true,true,true,true,true,true,true,true,true,true] rfl rfl (any_of HT_.out (by kernel_rfl)) (fun _ _ _ h => h) (Or.inl ⟨by rfl,?_⟩) ?_ ?_
           rotate_left
           ·
            intro w'
            go_simp
            with_reducible rfl
           rotate_left
           ·
            simp only [Act.put,List.setIfInBounds_toArray,List.set_cons_zero,List.set_cons_succ,i64_w,i32_w]
            rfl
           refine done_ (done_of HT_.out (by kernel_rfl)) ?_
           try go_wp2
           go_meet
           case rel => exact ⟨_,(true),(by first | rfl | (simp;done) | (simp [*];done)),H',⟨by have := HK1.out;first | omega | exact Nat.le_refl _⟩,⟨by (with_reducible repeat (first | apply Kd.R_alloc | apply Kd.R_drewN | apply Kd.R_drew));exact HO_3.out⟩,⟨by (with_reducible repeat (first | refine blk_drewN ?_ _ | refine blk_drew ?_ | refine blk_alloc ?_ _));exact BK137.out⟩,⟨by (with_reducible repeat (first | refine blk_drewN ?_ _ | refine blk_drew ?_ | refine blk_alloc ?_ _));exact BK158.out⟩,⟨by (with_reducible repeat (first | refine blk_drewN ?_ _ | refine blk_drew ?_ | refine blk_alloc ?_ _));exact BK172.out⟩,⟨by repeat (first | (with_reducible first | exact HB.out | apply below_alloc | apply pw_below_drewN | apply below_drew1 | refine below_set ?_ (Aside0.out (by assumption))) | exact HB.out)⟩⟩
          ·
           rw [if_neg c36] at H
           have c36b0 : (t157 != t171) = false := by simpa using c36
           (try (have c36b1 : decide (t157 = t171) = true := by simpa using c36))
           (try (have c36b2 : (t157 == t171) = true := by simpa using c36))
           clear c36
           (first | rw [c36b0] | (simp only [i64_w,i32_w];rw [c36b0]) | skip)
           by_cases c39 : 0 ≤ (l0.length : Int)
           ·
            rw [if_pos c39] at H
            have c39b0 : decide (0 ≤ (l0.length : Int)) = true := decide_eq_true c39
            have c39b1 : decide (0 ≤ l0.length) = true := decide_eq_true (by omega)
            clear c39
            by_cases c40 : (l0.length : Int) < (y138.length : Int)
            ·
             rw [if_pos c40] at H
             have c40b0 : decide ((l0.length : Int) < (y138.length : Int)) = true := decide_eq_true c40
             have c40b1 : decide (l0.length < y138.length) = true := decide_eq_true (Int.ofNat_lt.mp c40)
             clear c40
             replace H := Option.bind_eq_some_iff.mp H
             obtain ⟨t178,A410,H⟩ := H
             replace H : (arrearslaw8_LedgerTotals.j1 k1 l0 y138 y141 (!t178)) = some r := H
             have A41 := Aside0.mk A410
             clear A410
             have H' := Aside0.mk H
             clear H
             try go_wp2
             have n0_ := Aside0.mk (Kd.R_drew HO_3.out)
             have n1_ := Aside0.mk (blk_drew BK137.out)
             have n2_ := Aside0.mk (blk_drew BK158.out)
             have n3_ := Aside0.mk (blk_drew BK172.out)
             have n4_ := Aside0.mk (below_drew1 HB.out)
             clear HO_3
             clear BK137
             clear BK158
             clear BK172
             clear HB
             have HO_3 := n0_
             have BK137 := n1_
             have BK158 := n2_
             have BK172 := n3_
             have HB := n4_
             clear n0_ n1_ n2_ n3_ n4_
             have p177 : 0 ≤ ((l0.length : Int) : Int) := of_decide_eq_true (by first | (with_reducible assumption) | assumption)
             have q177 : (l0.length : Int) < (y138.length : Int) := of_decide_eq_true (by first | (with_reducible assumption) | assumption)
             obtain ⟨ad177,e177,hx177_0,hx177_1,hx177_2,hx177_3,hx177_4,hx177_5,hx177_6,hx177_7,hx177_8,hx177_9,hx177_10,hx177_11⟩ := at_T32 (Kd.R_reads' HO_3.out).2.2 (l0.length : Int) p177 q177
             cases e177
             (try simp only [Go.IntWalk.toNatUp] at hx177_0)
             (try simp only [Go.IntWalk.toNatUp] at hx177_1)
             (try simp only [Go.IntWalk.toNatUp] at hx177_2)
             (try simp only [Go.IntWalk.toNatUp] at hx177_3)
             (try simp only [Go.IntWalk.toNatUp] at hx177_4)
             (try simp only [Go.IntWalk.toNatUp] at hx177_5)
             (try simp only [Go.IntWalk.toNatUp] at hx177_6)
             (try simp only [Go.IntWalk.toNatUp] at hx177_7)
             (try simp only [Go.IntWalk.toNatUp] at hx177_8)
             (try simp only [Go.IntWalk.toNatUp] at hx177_9)
             (try simp only [Go.IntWalk.toNatUp] at hx177_10)
             (try simp only [Go.IntWalk.toNatUp] at hx177_11)
             replace p177 := eq_true p177
             replace q177 := eq_true q177
             refine start_ (n:=19) (S:=fun w' => w'.cell? ⟨gb158,0,none⟩ = some (.int .i64 t145) ∧ w'.cell? ⟨gb158,1,none⟩ = some (.int .i64 t146) ∧ w'.cell? ⟨gb158,2,none⟩ = some (.int .i64 t147) ∧ w'.cell? ⟨gb158,3,none⟩ = some (.int .i64 t148) ∧ w'.cell? ⟨gb158,4,none⟩ = some (.int .i64 t149) ∧ w'.cell? ⟨gb158,5,none⟩ = some (.int .i64 t150) ∧ w'.cell? ⟨gb158,6,none⟩ = some (.int .i64 t151) ∧ w'.cell? ⟨gb158,7,none⟩ = some (.int .i64 t152) ∧ w'.cell? ⟨gb158,8,none⟩ = some (.int .i64 t153) ∧ w'.cell? ⟨gb158,9,none⟩ = some (.int .i64 t154) ∧ w'.cell? ⟨gb158,10,none⟩ = some (.int .i64 t155) ∧ w'.cell? ⟨gb158,11,none⟩ = some (.int .i64 t156) ∧ w'.cell? ⟨gb172,0,none⟩ = some (.int .i64 t159) ∧ w'.cell? ⟨gb172,1,none⟩ = some (.int .i64 t160) ∧ w'.cell? ⟨gb172,2,none⟩ = some (.int .i64 t161) ∧ w'.cell? ⟨gb172,3,none⟩ = some (.int .i64 t162) ∧ w'.cell? ⟨gb172,4,none⟩ = some (.int .i64 t163) ∧ w'.cell? ⟨gb172,5,none⟩ = some (.int .i64 t164) ∧ w'.cell? ⟨gb172,6,none⟩ = some (.int .i64 t165) ∧ w'.cell? ⟨gb172,7,none⟩ = some (.int .i64 t166) ∧ w'.cell? ⟨gb172,8,none⟩ = some (.int .i64 t167) ∧ w'.cell? ⟨gb172,9,none⟩ = some (.int .i64 t168) ∧ w'.cell? ⟨gb172,10,none⟩ = some (.int .i64 t169) ∧ w'.cell? ⟨gb172,11,none⟩ = some (.int .i64 t170) ∧ w'.cell? ⟨gb137,0,none⟩ = some (.int .i64 0) ∧ w'.cell? ⟨gb137,1,none⟩ = some (.int .i64 0) ∧ w'.cell? ⟨gb137,2,none⟩ = some (.int .i64 0) ∧ w'.cell? ⟨gb137,3,none⟩ = some (.int .i64 0) ∧ w'.cell? ⟨gb137,4,none⟩ = some (.int .i64 0) ∧ w'.cell? ⟨gb137,5,none⟩ = some (.int .i64 (-77)) ∧ w'.cell? ⟨gb137,6,none⟩ = some (.int .i64 0) ∧ w'.cell? ⟨gb137,7,none⟩ = some (.int .i64 0) ∧ w'.cell? ⟨gb137,8,none⟩ = some (.int .i64 0) ∧ w'.cell? ⟨gb137,9,none⟩ = some (.int .i64 0) ∧ w'.cell? ⟨gb137,10,none⟩ = some (.int .i64 0) ∧ w'.cell? ⟨gb137,11,none⟩ = some (.int .i64 0) ∧ w'.cell? (ad177.add (l0.length * 12)) = some (.int .i64 ((rd_T32 y138 (l0.length : Int)).f0.f0)) ∧ w'.cell? ⟨(ad177.add (l0.length * 12)).block,(ad177.add (l0.length * 12)).off + 1,none⟩ = some (.int .i64 ((rd_T32 y138 (l0.length : Int)).f0.f1)) ∧ w'.cell? ⟨(ad177.add (l0.length * 12)).block,(ad177.add (l0.length * 12)).off + 2,none⟩ = some (.int .i64 ((rd_T32 y138 (l0.length : Int)).f0.f2)) ∧ w'.cell? ⟨(ad177.add (l0.length * 12)).block,(ad177.add (l0.length * 12)).off + 3,none⟩ = some (.int .i64 ((rd_T32 y138 (l0.length : Int)).f0.f3)) ∧ w'.cell? ⟨(ad177.add (l0.length * 12)).block,(ad177.add (l0.length * 12)).off + 4,none⟩ = some (.int .i64 ((rd_T32 y138 (l0.length : Int)).f0.f4)) ∧ w'.cell? ⟨(ad177.add (l0.length * 12)).block,(ad177.add (l0.length * 12)).off + 5,none⟩ = some (.int .i64 ((rd_T32 y138 (l0.length : Int)).f0.f5)) ∧ w'.cell? ⟨(ad177.add (l0.length * 12)).block,(ad177.add (l0.length * 12)).off + 6,none⟩ = some (.int .i64 ((rd_T32 y138 (l0.length : Int)).f0.f6)) ∧ w'.cell? ⟨(ad177.add (l0.length * 12)).block,(ad177.add (l0.length * 12)).off + 7,none⟩ = some (.int .i64 ((rd_T32 y138 (l0.length : Int)).f0.f7)) ∧ w'.cell? ⟨(ad177.add (l0.length * 12)).block,(ad177.add (l0.length * 12)).off + 8,none⟩ = some (.int .i64 ((rd_T32 y138 (l0.length : Int)).f0.f8)) ∧ w'.cell? ⟨(ad177.add (l0.length * 12)).block,(ad177.add (l0.length * 12)).off + 9,none⟩ = some (.int .i64 ((rd_T32 y138 (l0.length : Int)).f0.f9)) ∧ w'.cell? ⟨(ad177.add (l0.length * 12)).block,(ad177.add (l0.length * 12)).off + 10,none⟩ = some (.int .i64 ((rd_T32 y138 (l0.length : Int)).f0.f10)) ∧ w'.cell? ⟨(ad177.add (l0.length * 12)).block,(ad177.add (l0.length * 12)).off + 11,none⟩ = some (.int .i64 ((rd_T32 y138 (l0.length : Int)).f0.f11))) (ds:=[]) #[false,false,false,false,false,false,false,false,false,false,false,false,false,false,false,false,false,false,false] (by kernel_rfl) rfl rfl ⟨(blk_cell BK158.out 0).trans rfl,(blk_cell BK158.out 1).trans rfl,(blk_cell BK158.out 2).trans rfl,(blk_cell BK158.out 3).trans rfl,(blk_cell BK158.out 4).trans rfl,(blk_cell BK158.out 5).trans rfl,(blk_cell BK158.out 6).trans rfl,(blk_cell BK158.out 7).trans rfl,(blk_cell BK158.out 8).trans rfl,(blk_cell BK158.out 9).trans rfl,(blk_cell BK158.out 10).trans rfl,(blk_cell BK158.out 11).trans rfl,(blk_cell BK172.out 0).trans rfl,(blk_cell BK172.out 1).trans rfl,(blk_cell BK172.out 2).trans rfl,(blk_cell BK172.out 3).trans rfl,(blk_cell BK172.out 4).trans rfl,(blk_cell BK172.out 5).trans rfl,(blk_cell BK172.out 6).trans rfl,(blk_cell BK172.out 7).trans rfl,(blk_cell BK172.out 8).trans rfl,(blk_cell BK172.out 9).trans rfl,(blk_cell BK172.out 10).trans rfl,(blk_cell BK172.out 11).trans rfl,(blk_cell BK137.out 0).trans rfl,(blk_cell BK137.out 1).trans rfl,(blk_cell BK137.out 2).trans rfl,(blk_cell BK137.out 3).trans rfl,(blk_cell BK137.out 4).trans rfl,(blk_cell BK137.out 5).trans rfl,(blk_cell BK137.out 6).trans rfl,(blk_cell BK137.out 7).trans rfl,(blk_cell BK137.out 8).trans rfl,(blk_cell BK137.out 9).trans rfl,(blk_cell BK137.out 10).trans rfl,(blk_cell BK137.out 11).trans rfl,hx177_0,hx177_1,hx177_2,hx177_3,hx177_4,hx177_5,hx177_6,hx177_7,hx177_8,hx177_9,hx177_10,hx177_11⟩ (fun hHeld => ?_);refine with_tabW arrearslaw8_LedgerTotals.tab14 arrearslaw8_LedgerTotals.bits14 (fun HT_ HW_ => ?_)
             generalize wr.drew = w42 at HO_3 BK137 BK158 BK172 HB hx177_0 hx177_1 hx177_10 hx177_11 hx177_2 hx177_3 hx177_4 hx177_5 hx177_6 hx177_7 hx177_8 hx177_9 hHeld ⊢
             refine take_ (i:=0) (N:=some 53) (v:=?_) (a' := ?_) #[true,false,false,false,false,false,false,false,false,false,false,false,false,false,false,false,false,false,false] rfl rfl (take_ofW HT_.out HW_.out (by kernel_rfl)) (fun _ _ _ h => h) (Or.inl ⟨by rfl,?_⟩) hHeld ?_ ?_
             rotate_left
             ·
              rintro w' ⟨s0,s1,s2,s3,s4,s5,s6,s7,s8,s9,s10,s11,s12,s13,s14,s15,s16,s17,s18,s19,s20,s21,s22,s23,s24,s25,s26,s27,s28,s29,s30,s31,s32,s33,s34,s35,s36,s37,s38,s39,s40,s41,s42,s43,s44,s45,s46,s47⟩
              go_simp
              with_reducible rfl
             rotate_left
             ·
              simp only [Act.put,List.setIfInBounds_toArray,List.set_cons_zero,List.set_cons_succ,i64_w,i32_w]
              rfl
             refine take_ (i:=1) (N:=some 54) (v:=?_) (a' := ?_) #[true,true,false,false,false,false,false,false,false,false,false,false,false,false,false,false,false,false,false] rfl rfl (take_ofW HT_.out HW_.out (by kernel_rfl)) (fun _ _ _ h => h) (Or.inl ⟨by rfl,?_⟩) hHeld ?_ ?_
             rotate_left
             ·
              rintro w' ⟨s0,s1,s2,s3,s4,s5,s6,s7,s8,s9,s10,s11,s12,s13,s14,s15,s16,s17,s18,s19,s20,s21,s22,s23,s24,s25,s26,s27,s28,s29,s30,s31,s32,s33,s34,s35,s36,s37,s38,s39,s40,s41,s42,s43,s44,s45,s46,s47⟩
              go_simp
              with_reducible rfl
             rotate_left
             ·
              simp only [Act.put,List.setIfInBounds_toArray,List.set_cons_zero,List.set_cons_succ,i64_w,i32_w]
              rfl
             refine one_ (i:=2) (N:=some 55) #[true,true,true,false,false,false,false,false,false,false,false,false,false,false,false,false,false,false,false] rfl rfl (one_of HT_.out (by kernel_rfl)) (by decide) (fun K hK => ?_)
             refine goes_ Try.func16 (by kernel_rfl) rfl #[.agg #[.int .i64 t145, .int .i64 t146, .int .i64 t147, .int .i64 t148, .int .i64 t149, .int .i64 t150, .int .i64 t151, .int .i64 t152, .int .i64 t153, .int .i64 t154, .int .i64 t155, .int .i64 t156], .agg #[.int .i64 t159, .int .i64 t160, .int .i64 t161, .int .i64 t162, .int .i64 t163, .int .i64 t164, .int .i64 t165, .int .i64 t166, .int .i64 t167, .int .i64 t168, .int .i64 t169, .int .i64 t170]] (by rfl) rfl rfl (by (try simp only [List.map_toArray,List.map_cons,List.map_nil]);first | done | rfl | (simp only [List.length_drop,List.length_take];rfl)) ?_
             with_reducible refine (arrearslaw8_same.calls k1 t145 t146 t147 t148 t149 t150 t151 t152 t153 t154 t155 t156 t159 t160 t161 t162 t163 t164 t165 t166 t167 t168 t169 t170 true _ A34.out).mono ?_
             rintro e w43 ⟨rfl,hb⟩
             have HS36_ := (hb.cell (World.block_lt_of_cell? _ _ (hHeld.2.2.2.2.2.2.2.2.2.2.2.2.2.2.2.2.2.2.2.2.2.2.2.2.2.2.2.2.2.2.2.2.2.2.2.2.1))).trans (hHeld.2.2.2.2.2.2.2.2.2.2.2.2.2.2.2.2.2.2.2.2.2.2.2.2.2.2.2.2.2.2.2.2.2.2.2.2.1)
             have HS37_ := (hb.cell (World.block_lt_of_cell? _ _ (hHeld.2.2.2.2.2.2.2.2.2.2.2.2.2.2.2.2.2.2.2.2.2.2.2.2.2.2.2.2.2.2.2.2.2.2.2.2.2.1))).trans (hHeld.2.2.2.2.2.2.2.2.2.2.2.2.2.2.2.2.2.2.2.2.2.2.2.2.2.2.2.2.2.2.2.2.2.2.2.2.2.1)
             have HS38_ := (hb.cell (World.block_lt_of_cell? _ _ (hHeld.2.2.2.2.2.2.2.2.2.2.2.2.2.2.2.2.2.2.2.2.2.2.2.2.2.2.2.2.2.2.2.2.2.2.2.2.2.2.1))).trans (hHeld.2.2.2.2.2.2.2.2.2.2.2.2.2.2.2.2.2.2.2.2.2.2.2.2.2.2.2.2.2.2.2.2.2.2.2.2.2.2.1)
             have HS39_ := (hb.cell (World.block_lt_of_cell? _ _ (hHeld.2.2.2.2.2.2.2.2.2.2.2.2.2.2.2.2.2.2.2.2.2.2.2.2.2.2.2.2.2.2.2.2.2.2.2.2.2.2.2.1))).trans (hHeld.2.2.2.2.2.2.2.2.2.2.2.2.2.2.2.2.2.2.2.2.2.2.2.2.2.2.2.2.2.2.2.2.2.2.2.2.2.2.2.1)
             have HS40_ := (hb.cell (World.block_lt_of_cell? _ _ (hHeld.2.2.2.2.2.2.2.2.2.2.2.2.2.2.2.2.2.2.2.2.2.2.2.2.2.2.2.2.2.2.2.2.2.2.2.2.2.2.2.2.1))).trans (hHeld.2.2.2.2.2.2.2.2.2.2.2.2.2.2.2.2.2.2.2.2.2.2.2.2.2.2.2.2.2.2.2.2.2.2.2.2.2.2.2.2.1)
             have HS41_ := (hb.cell (World.block_lt_of_cell? _ _ (hHeld.2.2.2.2.2.2.2.2.2.2.2.2.2.2.2.2.2.2.2.2.2.2.2.2.2.2.2.2.2.2.2.2.2.2.2.2.2.2.2.2.2.1))).trans (hHeld.2.2.2.2.2.2.2.2.2.2.2.2.2.2.2.2.2.2.2.2.2.2.2.2.2.2.2.2.2.2.2.2.2.2.2.2.2.2.2.2.2.1)
             have HS42_ := (hb.cell (World.block_lt_of_cell? _ _ (hHeld.2.2.2.2.2.2.2.2.2.2.2.2.2.2.2.2.2.2.2.2.2.2.2.2.2.2.2.2.2.2.2.2.2.2.2.2.2.2.2.2.2.2.1))).trans (hHeld.2.2.2.2.2.2.2.2.2.2.2.2.2.2.2.2.2.2.2.2.2.2.2.2.2.2.2.2.2.2.2.2.2.2.2.2.2.2.2.2.2.2.1)
             have HS43_ := (hb.cell (World.block_lt_of_cell? _ _ (hHeld.2.2.2.2.2.2.2.2.2.2.2.2.2.2.2.2.2.2.2.2.2.2.2.2.2.2.2.2.2.2.2.2.2.2.2.2.2.2.2.2.2.2.2.1))).trans (hHeld.2.2.2.2.2.2.2.2.2.2.2.2.2.2.2.2.2.2.2.2.2.2.2.2.2.2.2.2.2.2.2.2.2.2.2.2.2.2.2.2.2.2.2.1)
             have HS44_ := (hb.cell (World.block_lt_of_cell? _ _ (hHeld.2.2.2.2.2.2.2.2.2.2.2.2.2.2.2.2.2.2.2.2.2.2.2.2.2.2.2.2.2.2.2.2.2.2.2.2.2.2.2.2.2.2.2.2.1))).trans (hHeld.2.2.2.2.2.2.2.2.2.2.2.2.2.2.2.2.2.2.2.2.2.2.2.2.2.2.2.2.2.2.2.2.2.2.2.2.2.2.2.2.2.2.2.2.1)
             have HS45_ := (hb.cell (World.block_lt_of_cell? _ _ (hHeld.2.2.2.2.2.2.2.2.2.2.2.2.2.2.2.2.2.2.2.2.2.2.2.2.2.2.2.2.2.2.2.2.2.2.2.2.2.2.2.2.2.2.2.2.2.1))).trans (hHeld.2.2.2.2.2.2.2.2.2.2.2.2.2.2.2.2.2.2.2.2.2.2.2.2.2.2.2.2.2.2.2.2.2.2.2.2.2.2.2.2.2.2.2.2.2.1)
             have HS46_ := (hb.cell (World.block_lt_of_cell? _ _ (hHeld.2.2.2.2.2.2.2.2.2.2.2.2.2.2.2.2.2.2.2.2.2.2.2.2.2.2.2.2.2.2.2.2.2.2.2.2.2.2.2.2.2.2.2.2.2.2.1))).trans (hHeld.2.2.2.2.2.2.2.2.2.2.2.2.2.2.2.2.2.2.2.2.2.2.2.2.2.2.2.2.2.2.2.2.2.2.2.2.2.2.2.2.2.2.2.2.2.2.1)
             have HS47_ := (hb.cell (World.block_lt_of_cell? _ _ (hHeld.2.2.2.2.2.2.2.2.2.2.2.2.2.2.2.2.2.2.2.2.2.2.2.2.2.2.2.2.2.2.2.2.2.2.2.2.2.2.2.2.2.2.2.2.2.2.2))).trans (hHeld.2.2.2.2.2.2.2.2.2.2.2.2.2.2.2.2.2.2.2.2.2.2.2.2.2.2.2.2.2.2.2.2.2.2.2.2.2.2.2.2.2.2.2.2.2.2.2)
             refine ⟨_,rfl,?_⟩
             have n0_ := Aside0.mk (Kd.R_below (by (with_reducible repeat (first | apply Kd.R_alloc | apply Kd.R_drewN | apply Kd.R_drew));exact HO_3.out) hb)
             have n1_ := Aside0.mk (blk_below (g:=gb137) (o:=.cells #[.int .i64 0, .int .i64 0, .int .i64 0, .int .i64 0, .int .i64 0, .int .i64 (-77), .int .i64 0, .int .i64 0, .int .i64 0, .int .i64 0, .int .i64 0, .int .i64 0] 32 (0,0)) (by (with_reducible repeat (first | refine blk_drewN ?_ _ | refine blk_drew ?_ | refine blk_alloc ?_ _));exact BK137.out) hb)
             have n2_ := Aside0.mk (blk_below (g:=gb158) (o:=.cells #[.int .i64 t145, .int .i64 t146, .int .i64 t147, .int .i64 t148, .int .i64 t149, .int .i64 t150, .int .i64 t151, .int .i64 t152, .int .i64 t153, .int .i64 t154, .int .i64 t155, .int .i64 t156] 32 (0,0)) (by (with_reducible repeat (first | refine blk_drewN ?_ _ | refine blk_drew ?_ | refine blk_alloc ?_ _));exact BK158.out) hb)
             have n3_ := Aside0.mk (blk_below (g:=gb172) (o:=.cells #[.int .i64 t159, .int .i64 t160, .int .i64 t161, .int .i64 t162, .int .i64 t163, .int .i64 t164, .int .i64 t165, .int .i64 t166, .int .i64 t167, .int .i64 t168, .int .i64 t169, .int .i64 t170] 32 (0,0)) (by (with_reducible repeat (first | refine blk_drewN ?_ _ | refine blk_drew ?_ | refine blk_alloc ?_ _));exact BK172.out) hb)
             have n4_ := Aside0.mk (below_step (by repeat (first | (with_reducible first | exact HB.out | apply below_alloc | apply pw_below_drewN | apply below_drew1 | refine below_set ?_ (Aside0.out (by assumption))) | exact HB.out)) hb)
             clear HO_3
             clear BK137
             clear BK158
             clear BK172
             clear HB
             have HO_3 := n0_
             have BK137 := n1_
             have BK158 := n2_
             have BK172 := n3_
             have HB := n4_
             clear n0_ n1_ n2_ n3_ n4_
             (try clear hb)
             (try clear hb2)
             (try clear hk)
             (try clear hi)
             refine hK.out _ _ ⟨(blk_cell BK158.out 0).trans rfl,(blk_cell BK158.out 1).trans rfl,(blk_cell BK158.out 2).trans rfl,(blk_cell BK158.out 3).trans rfl,(blk_cell BK158.out 4).trans rfl,(blk_cell BK158.out 5).trans rfl,(blk_cell BK158.out 6).trans rfl,(blk_cell BK158.out 7).trans rfl,(blk_cell BK158.out 8).trans rfl,(blk_cell BK158.out 9).trans rfl,(blk_cell BK158.out 10).trans rfl,(blk_cell BK158.out 11).trans rfl,(blk_cell BK172.out 0).trans rfl,(blk_cell BK172.out 1).trans rfl,(blk_cell BK172.out 2).trans rfl,(blk_cell BK172.out 3).trans rfl,(blk_cell BK172.out 4).trans rfl,(blk_cell BK172.out 5).trans rfl,(blk_cell BK172.out 6).trans rfl,(blk_cell BK172.out 7).trans rfl,(blk_cell BK172.out 8).trans rfl,(blk_cell BK172.out 9).trans rfl,(blk_cell BK172.out 10).trans rfl,(blk_cell BK172.out 11).trans rfl,(blk_cell BK137.out 0).trans rfl,(blk_cell BK137.out 1).trans rfl,(blk_cell BK137.out 2).trans rfl,(blk_cell BK137.out 3).trans rfl,(blk_cell BK137.out 4).trans rfl,(blk_cell BK137.out 5).trans rfl,(blk_cell BK137.out 6).trans rfl,(blk_cell BK137.out 7).trans rfl,(blk_cell BK137.out 8).trans rfl,(blk_cell BK137.out 9).trans rfl,(blk_cell BK137.out 10).trans rfl,(blk_cell BK137.out 11).trans rfl,HS36_,HS37_,HS38_,HS39_,HS40_,HS41_,HS42_,HS43_,HS44_,HS45_,HS46_,HS47_⟩ (fun hHeld => ?_)
             clear hK K
             refine norm_ (a' := ?_) ?_ ?_
             rotate_left
             ·
              show Act.put _ (some 55) _ = _
              simp only [Act.put,List.setIfInBounds_toArray,List.set_cons_zero,List.set_cons_succ,i64_w,i32_w]
              rfl
             refine pure_ (i:=3) (N:=some 56) (v:=?_) (a' := ?_) #[true,true,true,true,false,false,false,false,false,false,false,false,false,false,false,false,false,false,false] rfl rfl (any_of HT_.out (by kernel_rfl)) (fun _ _ _ h => h) (Or.inl ⟨by rfl,?_⟩) ?_ ?_
             rotate_left
             ·
              intro w'
              go_simp
              with_reducible rfl
             rotate_left
             ·
              simp only [Act.put,List.setIfInBounds_toArray,List.set_cons_zero,List.set_cons_succ,i64_w,i32_w]
              rfl
             refine pure_ (i:=4) (N:=some 57) (v:=?_) (a' := ?_) #[true,true,true,true,true,false,false,false,false,false,false,false,false,false,false,false,false,false,false] rfl rfl (any_of HT_.out (by kernel_rfl)) (fun _ _ _ h => h) (Or.inl ⟨by rfl,?_⟩) ?_ ?_
             rotate_left
             ·
              intro w'
              go_simp
              with_reducible rfl
             rotate_left
             ·
              simp only [Act.put,List.setIfInBounds_toArray,List.set_cons_zero,List.set_cons_succ,i64_w,i32_w]
              rfl
             refine pure_ (i:=5) (N:=some 58) (v:=?_) (a' := ?_) #[true,true,true,true,true,true,false,false,false,false,false,false,false,false,false,false,false,false,false] rfl rfl (any_of HT_.out (by kernel_rfl)) (fun _ _ _ h => h) (Or.inl ⟨by rfl,?_⟩) ?_ ?_
             rotate_left
             ·
              intro w'
              go_simp
              with_reducible rfl
             rotate_left
             ·
              simp only [Act.put,List.setIfInBounds_toArray,List.set_cons_zero,List.set_cons_succ,i64_w,i32_w]
              rfl
             refine pure_ (i:=6) (N:=some 59) (v:=?_) (a' := ?_) #[true,true,true,true,true,true,true,false,false,false,false,false,false,false,false,false,false,false,false] rfl rfl (any_of HT_.out (by kernel_rfl)) (fun _ _ _ h => h) (Or.inl ⟨by rfl,?_⟩) ?_ ?_
             rotate_left
             ·
              intro w'
              go_simp
              with_reducible rfl
             rotate_left
             ·
              simp only [Act.put,List.setIfInBounds_toArray,List.set_cons_zero,List.set_cons_succ,i64_w,i32_w]
              rfl
             refine pure_ (i:=7) (N:=some 60) (v:=?_) (a' := ?_) #[true,true,true,true,true,true,true,true,false,false,false,false,false,false,false,false,false,false,false] rfl rfl (any_of HT_.out (by kernel_rfl)) (fun _ _ _ h => h) (Or.inl ⟨by rfl,?_⟩) ?_ ?_
             rotate_left
             ·
              intro w'
              go_simp
              with_reducible rfl
             rotate_left
             ·
              simp only [Act.put,List.setIfInBounds_toArray,List.set_cons_zero,List.set_cons_succ,i64_w,i32_w]
              rfl
             refine pure_ (i:=8) (N:=some 61) (v:=?_) (a' := ?_) #[true,true,true,true,true,true,true,true,true,false,false,false,false,false,false,false,false,false,false] rfl rfl (any_of HT_.out (by kernel_rfl)) (fun _ _ _ h => h) (Or.inl ⟨by rfl,?_⟩) ?_ ?_
             rotate_left
             ·
              intro w'
              go_simp
              with_reducible rfl
             rotate_left
             ·
              simp only [Act.put,List.setIfInBounds_toArray,List.set_cons_zero,List.set_cons_succ,i64_w,i32_w]
              rfl
             refine pure_ (i:=9) (N:=some 62) (v:=?_) (a' := ?_) #[true,true,true,true,true,true,true,true,true,true,false,false,false,false,false,false,false,false,false] rfl rfl (any_of HT_.out (by kernel_rfl)) (fun _ _ _ h => h) (Or.inl ⟨by rfl,?_⟩) ?_ ?_
             rotate_left
             ·
              intro w'
              go_simp
              with_reducible rfl
             rotate_left
             ·
              simp only [Act.put,List.setIfInBounds_toArray,List.set_cons_zero,List.set_cons_succ,i64_w,i32_w]
              rfl
             refine pure_ (i:=10) (N:=some 63) (v:=?_) (a' := ?_) #[true,true,true,true,true,true,true,true,true,true,true,false,false,false,false,false,false,false,false] rfl rfl (any_of HT_.out (by kernel_rfl)) (fun _ _ _ h => h) (Or.inl ⟨by rfl,?_⟩) ?_ ?_
             rotate_left
             ·
              intro w'
              go_simp
              with_reducible rfl
             rotate_left
             ·
              simp only [Act.put,List.setIfInBounds_toArray,List.set_cons_zero,List.set_cons_succ,i64_w,i32_w]
              rfl
             refine pure_ (i:=11) (N:=some 64) (v:=?_) (a' := ?_) #[true,true,true,true,true,true,true,true,true,true,true,true,false,false,false,false,false,false,false] rfl rfl (any_of HT_.out (by kernel_rfl)) (fun _ _ _ h => h) (Or.inl ⟨by rfl,?_⟩) ?_ ?_
             rotate_left
             ·
              intro w'
              go_simp
              with_reducible rfl
             rotate_left
             ·
              simp only [Act.put,List.setIfInBounds_toArray,List.set_cons_zero,List.set_cons_succ,i64_w,i32_w]
              rfl
             refine pure_ (i:=12) (N:=some 65) (v:=?_) (a' := ?_) #[true,true,true,true,true,true,true,true,true,true,true,true,true,false,false,false,false,false,false] rfl rfl (any_of HT_.out (by kernel_rfl)) (fun _ _ _ h => h) (Or.inl ⟨by rfl,?_⟩) ?_ ?_
             rotate_left
             ·
              intro w'
              go_simp
              with_reducible rfl
             rotate_left
             ·
              simp only [Act.put,List.setIfInBounds_toArray,List.set_cons_zero,List.set_cons_succ,i64_w,i32_w]
              rfl
             refine pure_ (i:=13) (N:=some 66) (v:=?_) (a' := ?_) #[true,true,true,true,true,true,true,true,true,true,true,true,true,true,false,false,false,false,false] rfl rfl (any_of HT_.out (by kernel_rfl)) (fun _ _ _ h => h) (Or.inl ⟨by rfl,?_⟩) ?_ ?_
             rotate_left
             ·
              intro w'
              go_simp
              with_reducible rfl
             rotate_left
             ·
              simp only [Act.put,List.setIfInBounds_toArray,List.set_cons_zero,List.set_cons_succ,i64_w,i32_w]
              rfl
             refine take_ (i:=14) (N:=some 67) (v:=?_) (a' := ?_) #[true,true,true,true,true,true,true,true,true,true,true,true,true,true,true,false,false,false,false] rfl rfl (take_ofW HT_.out HW_.out (by kernel_rfl)) (fun _ _ _ h => h) (Or.inl ⟨by rfl,?_⟩) hHeld ?_ ?_
             rotate_left
             ·
              rintro w' ⟨s0,s1,s2,s3,s4,s5,s6,s7,s8,s9,s10,s11,s12,s13,s14,s15,s16,s17,s18,s19,s20,s21,s22,s23,s24,s25,s26,s27,s28,s29,s30,s31,s32,s33,s34,s35,s36,s37,s38,s39,s40,s41,s42,s43,s44,s45,s46,s47⟩
              go_simp
              with_reducible rfl
             rotate_left
             ·
              simp only [Act.put,List.setIfInBounds_toArray,List.set_cons_zero,List.set_cons_succ,i64_w,i32_w]
              rfl
             refine take_ (i:=15) (N:=some 68) (v:=?_) (a' := ?_) #[true,true,true,true,true,true,true,true,true,true,true,true,true,true,true,true,false,false,false] rfl rfl (take_ofW HT_.out HW_.out (by kernel_rfl)) (fun _ _ _ h => h) (Or.inl ⟨by rfl,?_⟩) hHeld ?_ ?_
             rotate_left
             ·
              rintro w' ⟨s0,s1,s2,s3,s4,s5,s6,s7,s8,s9,s10,s11,s12,s13,s14,s15,s16,s17,s18,s19,s20,s21,s22,s23,s24,s25,s26,s27,s28,s29,s30,s31,s32,s33,s34,s35,s36,s37,s38,s39,s40,s41,s42,s43,s44,s45,s46,s47⟩
              go_simp
              with_reducible rfl
             rotate_left
             ·
              simp only [Act.put,List.setIfInBounds_toArray,List.set_cons_zero,List.set_cons_succ,i64_w,i32_w]
              rfl
             refine one_ (i:=16) (N:=some 69) #[true,true,true,true,true,true,true,true,true,true,true,true,true,true,true,true,true,false,false] rfl rfl (one_of HT_.out (by kernel_rfl)) (by decide) (fun K hK => ?_)
             refine goes_ Try.func16 (by kernel_rfl) rfl #[.agg #[.int .i64 ((rd_T32 y138 (l0.length : Int)).f0.f0), .int .i64 ((rd_T32 y138 (l0.length : Int)).f0.f1), .int .i64 ((rd_T32 y138 (l0.length : Int)).f0.f2), .int .i64 ((rd_T32 y138 (l0.length : Int)).f0.f3), .int .i64 ((rd_T32 y138 (l0.length : Int)).f0.f4), .int .i64 ((rd_T32 y138 (l0.length : Int)).f0.f5), .int .i64 ((rd_T32 y138 (l0.length : Int)).f0.f6), .int .i64 ((rd_T32 y138 (l0.length : Int)).f0.f7), .int .i64 ((rd_T32 y138 (l0.length : Int)).f0.f8), .int .i64 ((rd_T32 y138 (l0.length : Int)).f0.f9), .int .i64 ((rd_T32 y138 (l0.length : Int)).f0.f10), .int .i64 ((rd_T32 y138 (l0.length : Int)).f0.f11)], .agg #[.int .i64 0, .int .i64 0, .int .i64 0, .int .i64 0, .int .i64 0, .int .i64 (-77), .int .i64 0, .int .i64 0, .int .i64 0, .int .i64 0, .int .i64 0, .int .i64 0]] (by rfl) rfl rfl (by (try simp only [List.map_toArray,List.map_cons,List.map_nil]);first | done | rfl | (simp only [List.length_drop,List.length_take];rfl)) ?_
             with_reducible refine (arrearslaw8_same.calls k1 ((rd_T32 y138 (l0.length : Int)).f0.f0) ((rd_T32 y138 (l0.length : Int)).f0.f1) ((rd_T32 y138 (l0.length : Int)).f0.f2) ((rd_T32 y138 (l0.length : Int)).f0.f3) ((rd_T32 y138 (l0.length : Int)).f0.f4) ((rd_T32 y138 (l0.length : Int)).f0.f5) ((rd_T32 y138 (l0.length : Int)).f0.f6) ((rd_T32 y138 (l0.length : Int)).f0.f7) ((rd_T32 y138 (l0.length : Int)).f0.f8) ((rd_T32 y138 (l0.length : Int)).f0.f9) ((rd_T32 y138 (l0.length : Int)).f0.f10) ((rd_T32 y138 (l0.length : Int)).f0.f11) 0 0 0 0 0 (-77) 0 0 0 0 0 0 t178 _ A41.out).mono ?_
             rintro e w44 ⟨rfl,hb⟩
             have HS36_ := (hb.cell (World.block_lt_of_cell? _ _ (hHeld.2.2.2.2.2.2.2.2.2.2.2.2.2.2.2.2.2.2.2.2.2.2.2.2.2.2.2.2.2.2.2.2.2.2.2.2.1))).trans (hHeld.2.2.2.2.2.2.2.2.2.2.2.2.2.2.2.2.2.2.2.2.2.2.2.2.2.2.2.2.2.2.2.2.2.2.2.2.1)
             have HS37_ := (hb.cell (World.block_lt_of_cell? _ _ (hHeld.2.2.2.2.2.2.2.2.2.2.2.2.2.2.2.2.2.2.2.2.2.2.2.2.2.2.2.2.2.2.2.2.2.2.2.2.2.1))).trans (hHeld.2.2.2.2.2.2.2.2.2.2.2.2.2.2.2.2.2.2.2.2.2.2.2.2.2.2.2.2.2.2.2.2.2.2.2.2.2.1)
             have HS38_ := (hb.cell (World.block_lt_of_cell? _ _ (hHeld.2.2.2.2.2.2.2.2.2.2.2.2.2.2.2.2.2.2.2.2.2.2.2.2.2.2.2.2.2.2.2.2.2.2.2.2.2.2.1))).trans (hHeld.2.2.2.2.2.2.2.2.2.2.2.2.2.2.2.2.2.2.2.2.2.2.2.2.2.2.2.2.2.2.2.2.2.2.2.2.2.2.1)
             have HS39_ := (hb.cell (World.block_lt_of_cell? _ _ (hHeld.2.2.2.2.2.2.2.2.2.2.2.2.2.2.2.2.2.2.2.2.2.2.2.2.2.2.2.2.2.2.2.2.2.2.2.2.2.2.2.1))).trans (hHeld.2.2.2.2.2.2.2.2.2.2.2.2.2.2.2.2.2.2.2.2.2.2.2.2.2.2.2.2.2.2.2.2.2.2.2.2.2.2.2.1)
             have HS40_ := (hb.cell (World.block_lt_of_cell? _ _ (hHeld.2.2.2.2.2.2.2.2.2.2.2.2.2.2.2.2.2.2.2.2.2.2.2.2.2.2.2.2.2.2.2.2.2.2.2.2.2.2.2.2.1))).trans (hHeld.2.2.2.2.2.2.2.2.2.2.2.2.2.2.2.2.2.2.2.2.2.2.2.2.2.2.2.2.2.2.2.2.2.2.2.2.2.2.2.2.1)
             have HS41_ := (hb.cell (World.block_lt_of_cell? _ _ (hHeld.2.2.2.2.2.2.2.2.2.2.2.2.2.2.2.2.2.2.2.2.2.2.2.2.2.2.2.2.2.2.2.2.2.2.2.2.2.2.2.2.2.1))).trans (hHeld.2.2.2.2.2.2.2.2.2.2.2.2.2.2.2.2.2.2.2.2.2.2.2.2.2.2.2.2.2.2.2.2.2.2.2.2.2.2.2.2.2.1)
             have HS42_ := (hb.cell (World.block_lt_of_cell? _ _ (hHeld.2.2.2.2.2.2.2.2.2.2.2.2.2.2.2.2.2.2.2.2.2.2.2.2.2.2.2.2.2.2.2.2.2.2.2.2.2.2.2.2.2.2.1))).trans (hHeld.2.2.2.2.2.2.2.2.2.2.2.2.2.2.2.2.2.2.2.2.2.2.2.2.2.2.2.2.2.2.2.2.2.2.2.2.2.2.2.2.2.2.1)
             have HS43_ := (hb.cell (World.block_lt_of_cell? _ _ (hHeld.2.2.2.2.2.2.2.2.2.2.2.2.2.2.2.2.2.2.2.2.2.2.2.2.2.2.2.2.2.2.2.2.2.2.2.2.2.2.2.2.2.2.2.1))).trans (hHeld.2.2.2.2.2.2.2.2.2.2.2.2.2.2.2.2.2.2.2.2.2.2.2.2.2.2.2.2.2.2.2.2.2.2.2.2.2.2.2.2.2.2.2.1)
             have HS44_ := (hb.cell (World.block_lt_of_cell? _ _ (hHeld.2.2.2.2.2.2.2.2.2.2.2.2.2.2.2.2.2.2.2.2.2.2.2.2.2.2.2.2.2.2.2.2.2.2.2.2.2.2.2.2.2.2.2.2.1))).trans (hHeld.2.2.2.2.2.2.2.2.2.2.2.2.2.2.2.2.2.2.2.2.2.2.2.2.2.2.2.2.2.2.2.2.2.2.2.2.2.2.2.2.2.2.2.2.1)
             have HS45_ := (hb.cell (World.block_lt_of_cell? _ _ (hHeld.2.2.2.2.2.2.2.2.2.2.2.2.2.2.2.2.2.2.2.2.2.2.2.2.2.2.2.2.2.2.2.2.2.2.2.2.2.2.2.2.2.2.2.2.2.1))).trans (hHeld.2.2.2.2.2.2.2.2.2.2.2.2.2.2.2.2.2.2.2.2.2.2.2.2.2.2.2.2.2.2.2.2.2.2.2.2.2.2.2.2.2.2.2.2.2.1)
             have HS46_ := (hb.cell (World.block_lt_of_cell? _ _ (hHeld.2.2.2.2.2.2.2.2.2.2.2.2.2.2.2.2.2.2.2.2.2.2.2.2.2.2.2.2.2.2.2.2.2.2.2.2.2.2.2.2.2.2.2.2.2.2.1))).trans (hHeld.2.2.2.2.2.2.2.2.2.2.2.2.2.2.2.2.2.2.2.2.2.2.2.2.2.2.2.2.2.2.2.2.2.2.2.2.2.2.2.2.2.2.2.2.2.2.1)
             have HS47_ := (hb.cell (World.block_lt_of_cell? _ _ (hHeld.2.2.2.2.2.2.2.2.2.2.2.2.2.2.2.2.2.2.2.2.2.2.2.2.2.2.2.2.2.2.2.2.2.2.2.2.2.2.2.2.2.2.2.2.2.2.2))).trans (hHeld.2.2.2.2.2.2.2.2.2.2.2.2.2.2.2.2.2.2.2.2.2.2.2.2.2.2.2.2.2.2.2.2.2.2.2.2.2.2.2.2.2.2.2.2.2.2.2)
             refine ⟨_,rfl,?_⟩
             have n0_ := Aside0.mk (Kd.R_below (by (with_reducible repeat (first | apply Kd.R_alloc | apply Kd.R_drewN | apply Kd.R_drew));exact HO_3.out) hb)
             have n1_ := Aside0.mk (blk_below (g:=gb137) (o:=.cells #[.int .i64 0, .int .i64 0, .int .i64 0, .int .i64 0, .int .i64 0, .int .i64 (-77), .int .i64 0, .int .i64 0, .int .i64 0, .int .i64 0, .int .i64 0, .int .i64 0] 32 (0,0)) (by (with_reducible repeat (first | refine blk_drewN ?_ _ | refine blk_drew ?_ | refine blk_alloc ?_ _));exact BK137.out) hb)
             have n2_ := Aside0.mk (blk_below (g:=gb158) (o:=.cells #[.int .i64 t145, .int .i64 t146, .int .i64 t147, .int .i64 t148, .int .i64 t149, .int .i64 t150, .int .i64 t151, .int .i64 t152, .int .i64 t153, .int .i64 t154, .int .i64 t155, .int .i64 t156] 32 (0,0)) (by (with_reducible repeat (first | refine blk_drewN ?_ _ | refine blk_drew ?_ | refine blk_alloc ?_ _));exact BK158.out) hb)
             have n3_ := Aside0.mk (blk_below (g:=gb172) (o:=.cells #[.int .i64 t159, .int .i64 t160, .int .i64 t161, .int .i64 t162, .int .i64 t163, .int .i64 t164, .int .i64 t165, .int .i64 t166, .int .i64 t167, .int .i64 t168, .int .i64 t169, .int .i64 t170] 32 (0,0)) (by (with_reducible repeat (first | refine blk_drewN ?_ _ | refine blk_drew ?_ | refine blk_alloc ?_ _));exact BK172.out) hb)
             have n4_ := Aside0.mk (below_step (by repeat (first | (with_reducible first | exact HB.out | apply below_alloc | apply pw_below_drewN | apply below_drew1 | refine below_set ?_ (Aside0.out (by assumption))) | exact HB.out)) hb)
             clear HO_3
             clear BK137
             clear BK158
             clear BK172
             clear HB
             have HO_3 := n0_
             have BK137 := n1_
             have BK158 := n2_
             have BK172 := n3_
             have HB := n4_
             clear n0_ n1_ n2_ n3_ n4_
             (try clear hb)
             (try clear hb2)
             (try clear hk)
             (try clear hi)
             refine hK.out _ _ ⟨(blk_cell BK158.out 0).trans rfl,(blk_cell BK158.out 1).trans rfl,(blk_cell BK158.out 2).trans rfl,(blk_cell BK158.out 3).trans rfl,(blk_cell BK158.out 4).trans rfl,(blk_cell BK158.out 5).trans rfl,(blk_cell BK158.out 6).trans rfl,(blk_cell BK158.out 7).trans rfl,(blk_cell BK158.out 8).trans rfl,(blk_cell BK158.out 9).trans rfl,(blk_cell BK158.out 10).trans rfl,(blk_cell BK158.out 11).trans rfl,(blk_cell BK172.out 0).trans rfl,(blk_cell BK172.out 1).trans rfl,(blk_cell BK172.out 2).trans rfl,(blk_cell BK172.out 3).trans rfl,(blk_cell BK172.out 4).trans rfl,(blk_cell BK172.out 5).trans rfl,(blk_cell BK172.out 6).trans rfl,(blk_cell BK172.out 7).trans rfl,(blk_cell BK172.out 8).trans rfl,(blk_cell BK172.out 9).trans rfl,(blk_cell BK172.out 10).trans rfl,(blk_cell BK172.out 11).trans rfl,(blk_cell BK137.out 0).trans rfl,(blk_cell BK137.out 1).trans rfl,(blk_cell BK137.out 2).trans rfl,(blk_cell BK137.out 3).trans rfl,(blk_cell BK137.out 4).trans rfl,(blk_cell BK137.out 5).trans rfl,(blk_cell BK137.out 6).trans rfl,(blk_cell BK137.out 7).trans rfl,(blk_cell BK137.out 8).trans rfl,(blk_cell BK137.out 9).trans rfl,(blk_cell BK137.out 10).trans rfl,(blk_cell BK137.out 11).trans rfl,HS36_,HS37_,HS38_,HS39_,HS40_,HS41_,HS42_,HS43_,HS44_,HS45_,HS46_,HS47_⟩ (fun hHeld => ?_)
             clear hK K
             refine norm_ (a' := ?_) ?_ ?_
             rotate_left
             ·
              show Act.put _ (some 69) _ = _
              simp only [Act.put,List.setIfInBounds_toArray,List.set_cons_zero,List.set_cons_succ,i64_w,i32_w]
              rfl
             refine pure_ (i:=17) (N:=some 70) (v:=?_) (a' := ?_) #[true,true,true,true,true,true,true,true,true,true,true,true,true,true,true,true,true,true,false] rfl rfl (any_of HT_.out (by kernel_rfl)) (fun _ _ _ h => h) (Or.inl ⟨by rfl,?_⟩) ?_ ?_
             rotate_left
             ·
              intro w'
              go_simp
              with_reducible rfl
             rotate_left
             ·
              simp only [Act.put,List.setIfInBounds_toArray,List.set_cons_zero,List.set_cons_succ,i64_w,i32_w]
              rfl
             refine pure_ (i:=18) (N:=some 71) (v:=?_) (a' := ?_) #[true,true,true,true,true,true,true,true,true,true,true,true,true,true,true,true,true,true,true] rfl rfl (any_of HT_.out (by kernel_rfl)) (fun _ _ _ h => h) (Or.inl ⟨by rfl,?_⟩) ?_ ?_
             rotate_left
             ·
              intro w'
              go_simp
              with_reducible rfl
             rotate_left
             ·
              simp only [Act.put,List.setIfInBounds_toArray,List.set_cons_zero,List.set_cons_succ,i64_w,i32_w]
              rfl
             refine done_ (done_of HT_.out (by kernel_rfl)) ?_
             try go_wp2
             go_meet
             case rel => exact ⟨_,(!t178),(by first | rfl | (simp;done) | (simp [*];done)),H',⟨by have := HK1.out;first | omega | exact Nat.le_refl _⟩,⟨by (with_reducible repeat (first | apply Kd.R_alloc | apply Kd.R_drewN | apply Kd.R_drew));exact HO_3.out⟩,⟨by (with_reducible repeat (first | refine blk_drewN ?_ _ | refine blk_drew ?_ | refine blk_alloc ?_ _));exact BK137.out⟩,⟨by (with_reducible repeat (first | refine blk_drewN ?_ _ | refine blk_drew ?_ | refine blk_alloc ?_ _));exact BK158.out⟩,⟨by (with_reducible repeat (first | refine blk_drewN ?_ _ | refine blk_drew ?_ | refine blk_alloc ?_ _));exact BK172.out⟩,⟨by repeat (first | (with_reducible first | exact HB.out | apply below_alloc | apply pw_below_drewN | apply below_drew1 | refine below_set ?_ (Aside0.out (by assumption))) | exact HB.out)⟩⟩
            ·
             rw [if_neg c40] at H
             exact absurd H (by simp)
           ·
            rw [if_neg c39] at H
            exact absurd H (by simp)
         ·
          replace c35 := Bool.eq_false_iff.mpr c35
          subst c35
          have H1 : (arrearslaw8_LedgerTotals.j1 k1 l0 y138 y141 true) = some r := by rw [if_neg (show ¬ (false = true) by decide)] at H;exact H
          clear H
          have H := H1
          clear H1
          have H' := Aside0.mk H
          clear H
          try go_wp2
          have n0_ := Aside0.mk (Kd.R_drew HO_3.out)
          have n1_ := Aside0.mk (blk_drew BK137.out)
          have n2_ := Aside0.mk (blk_drew BK158.out)
          have n3_ := Aside0.mk (blk_drew BK172.out)
          have n4_ := Aside0.mk (below_drew1 HB.out)
          clear HO_3
          clear BK137
          clear BK158
          clear BK172
          clear HB
          have HO_3 := n0_
          have BK137 := n1_
          have BK158 := n2_
          have BK172 := n3_
          have HB := n4_
          clear n0_ n1_ n2_ n3_ n4_
          refine start_ (n:=19) (S:=fun w' => w'.cell? ⟨gb158,0,none⟩ = some (.int .i64 t145) ∧ w'.cell? ⟨gb158,1,none⟩ = some (.int .i64 t146) ∧ w'.cell? ⟨gb158,2,none⟩ = some (.int .i64 t147) ∧ w'.cell? ⟨gb158,3,none⟩ = some (.int .i64 t148) ∧ w'.cell? ⟨gb158,4,none⟩ = some (.int .i64 t149) ∧ w'.cell? ⟨gb158,5,none⟩ = some (.int .i64 t150) ∧ w'.cell? ⟨gb158,6,none⟩ = some (.int .i64 t151) ∧ w'.cell? ⟨gb158,7,none⟩ = some (.int .i64 t152) ∧ w'.cell? ⟨gb158,8,none⟩ = some (.int .i64 t153) ∧ w'.cell? ⟨gb158,9,none⟩ = some (.int .i64 t154) ∧ w'.cell? ⟨gb158,10,none⟩ = some (.int .i64 t155) ∧ w'.cell? ⟨gb158,11,none⟩ = some (.int .i64 t156) ∧ w'.cell? ⟨gb172,0,none⟩ = some (.int .i64 t159) ∧ w'.cell? ⟨gb172,1,none⟩ = some (.int .i64 t160) ∧ w'.cell? ⟨gb172,2,none⟩ = some (.int .i64 t161) ∧ w'.cell? ⟨gb172,3,none⟩ = some (.int .i64 t162) ∧ w'.cell? ⟨gb172,4,none⟩ = some (.int .i64 t163) ∧ w'.cell? ⟨gb172,5,none⟩ = some (.int .i64 t164) ∧ w'.cell? ⟨gb172,6,none⟩ = some (.int .i64 t165) ∧ w'.cell? ⟨gb172,7,none⟩ = some (.int .i64 t166) ∧ w'.cell? ⟨gb172,8,none⟩ = some (.int .i64 t167) ∧ w'.cell? ⟨gb172,9,none⟩ = some (.int .i64 t168) ∧ w'.cell? ⟨gb172,10,none⟩ = some (.int .i64 t169) ∧ w'.cell? ⟨gb172,11,none⟩ = some (.int .i64 t170)) (ds:=[]) #[false,false,false,false,false,false,false,false,false,false,false,false,false,false,false,false,false,false,false] (by kernel_rfl) rfl rfl ⟨(blk_cell BK158.out 0).trans rfl,(blk_cell BK158.out 1).trans rfl,(blk_cell BK158.out 2).trans rfl,(blk_cell BK158.out 3).trans rfl,(blk_cell BK158.out 4).trans rfl,(blk_cell BK158.out 5).trans rfl,(blk_cell BK158.out 6).trans rfl,(blk_cell BK158.out 7).trans rfl,(blk_cell BK158.out 8).trans rfl,(blk_cell BK158.out 9).trans rfl,(blk_cell BK158.out 10).trans rfl,(blk_cell BK158.out 11).trans rfl,(blk_cell BK172.out 0).trans rfl,(blk_cell BK172.out 1).trans rfl,(blk_cell BK172.out 2).trans rfl,(blk_cell BK172.out 3).trans rfl,(blk_cell BK172.out 4).trans rfl,(blk_cell BK172.out 5).trans rfl,(blk_cell BK172.out 6).trans rfl,(blk_cell BK172.out 7).trans rfl,(blk_cell BK172.out 8).trans rfl,(blk_cell BK172.out 9).trans rfl,(blk_cell BK172.out 10).trans rfl,(blk_cell BK172.out 11).trans rfl⟩ (fun hHeld => ?_);refine with_tabW arrearslaw8_LedgerTotals.tab14 arrearslaw8_LedgerTotals.bits14 (fun HT_ HW_ => ?_)
          generalize wr.drew = w45 at HO_3 BK137 BK158 BK172 HB hHeld ⊢
          refine take_ (i:=0) (N:=some 53) (v:=?_) (a' := ?_) #[true,false,false,false,false,false,false,false,false,false,false,false,false,false,false,false,false,false,false] rfl rfl (take_ofW HT_.out HW_.out (by kernel_rfl)) (fun _ _ _ h => h) (Or.inl ⟨by rfl,?_⟩) hHeld ?_ ?_
          rotate_left
          ·
           rintro w' ⟨s0,s1,s2,s3,s4,s5,s6,s7,s8,s9,s10,s11,s12,s13,s14,s15,s16,s17,s18,s19,s20,s21,s22,s23⟩
           go_simp
           with_reducible rfl
          rotate_left
          ·
           simp only [Act.put,List.setIfInBounds_toArray,List.set_cons_zero,List.set_cons_succ,i64_w,i32_w]
           rfl
          refine take_ (i:=1) (N:=some 54) (v:=?_) (a' := ?_) #[true,true,false,false,false,false,false,false,false,false,false,false,false,false,false,false,false,false,false] rfl rfl (take_ofW HT_.out HW_.out (by kernel_rfl)) (fun _ _ _ h => h) (Or.inl ⟨by rfl,?_⟩) hHeld ?_ ?_
          rotate_left
          ·
           rintro w' ⟨s0,s1,s2,s3,s4,s5,s6,s7,s8,s9,s10,s11,s12,s13,s14,s15,s16,s17,s18,s19,s20,s21,s22,s23⟩
           go_simp
           with_reducible rfl
          rotate_left
          ·
           simp only [Act.put,List.setIfInBounds_toArray,List.set_cons_zero,List.set_cons_succ,i64_w,i32_w]
           rfl
          refine one_ (i:=2) (N:=some 55) #[true,true,true,false,false,false,false,false,false,false,false,false,false,false,false,false,false,false,false] rfl rfl (one_of HT_.out (by kernel_rfl)) (by decide) (fun K hK => ?_)
          refine goes_ Try.func16 (by kernel_rfl) rfl #[.agg #[.int .i64 t145, .int .i64 t146, .int .i64 t147, .int .i64 t148, .int .i64 t149, .int .i64 t150, .int .i64 t151, .int .i64 t152, .int .i64 t153, .int .i64 t154, .int .i64 t155, .int .i64 t156], .agg #[.int .i64 t159, .int .i64 t160, .int .i64 t161, .int .i64 t162, .int .i64 t163, .int .i64 t164, .int .i64 t165, .int .i64 t166, .int .i64 t167, .int .i64 t168, .int .i64 t169, .int .i64 t170]] (by rfl) rfl rfl (by (try simp only [List.map_toArray,List.map_cons,List.map_nil]);first | done | rfl | (simp only [List.length_drop,List.length_take];rfl)) ?_
          with_reducible refine (arrearslaw8_same.calls k1 t145 t146 t147 t148 t149 t150 t151 t152 t153 t154 t155 t156 t159 t160 t161 t162 t163 t164 t165 t166 t167 t168 t169 t170 false _ A34.out).mono ?_
          rintro e w46 ⟨rfl,hb⟩
          refine ⟨_,rfl,?_⟩
          have n0_ := Aside0.mk (Kd.R_below (by (with_reducible repeat (first | apply Kd.R_alloc | apply Kd.R_drewN | apply Kd.R_drew));exact HO_3.out) hb)
          have n1_ := Aside0.mk (blk_below (g:=gb137) (o:=.cells #[.int .i64 0, .int .i64 0, .int .i64 0, .int .i64 0, .int .i64 0, .int .i64 (-77), .int .i64 0, .int .i64 0, .int .i64 0, .int .i64 0, .int .i64 0, .int .i64 0] 32 (0,0)) (by (with_reducible repeat (first | refine blk_drewN ?_ _ | refine blk_drew ?_ | refine blk_alloc ?_ _));exact BK137.out) hb)
          have n2_ := Aside0.mk (blk_below (g:=gb158) (o:=.cells #[.int .i64 t145, .int .i64 t146, .int .i64 t147, .int .i64 t148, .int .i64 t149, .int .i64 t150, .int .i64 t151, .int .i64 t152, .int .i64 t153, .int .i64 t154, .int .i64 t155, .int .i64 t156] 32 (0,0)) (by (with_reducible repeat (first | refine blk_drewN ?_ _ | refine blk_drew ?_ | refine blk_alloc ?_ _));exact BK158.out) hb)
          have n3_ := Aside0.mk (blk_below (g:=gb172) (o:=.cells #[.int .i64 t159, .int .i64 t160, .int .i64 t161, .int .i64 t162, .int .i64 t163, .int .i64 t164, .int .i64 t165, .int .i64 t166, .int .i64 t167, .int .i64 t168, .int .i64 t169, .int .i64 t170] 32 (0,0)) (by (with_reducible repeat (first | refine blk_drewN ?_ _ | refine blk_drew ?_ | refine blk_alloc ?_ _));exact BK172.out) hb)
          have n4_ := Aside0.mk (below_step (by repeat (first | (with_reducible first | exact HB.out | apply below_alloc | apply pw_below_drewN | apply below_drew1 | refine below_set ?_ (Aside0.out (by assumption))) | exact HB.out)) hb)
          clear HO_3
          clear BK137
          clear BK158
          clear BK172
          clear HB
          have HO_3 := n0_
          have BK137 := n1_
          have BK158 := n2_
          have BK172 := n3_
          have HB := n4_
          clear n0_ n1_ n2_ n3_ n4_
          (try clear hb)
          (try clear hb2)
          (try clear hk)
          (try clear hi)
          refine hK.out _ _ ⟨(blk_cell BK158.out 0).trans rfl,(blk_cell BK158.out 1).trans rfl,(blk_cell BK158.out 2).trans rfl,(blk_cell BK158.out 3).trans rfl,(blk_cell BK158.out 4).trans rfl,(blk_cell BK158.out 5).trans rfl,(blk_cell BK158.out 6).trans rfl,(blk_cell BK158.out 7).trans rfl,(blk_cell BK158.out 8).trans rfl,(blk_cell BK158.out 9).trans rfl,(blk_cell BK158.out 10).trans rfl,(blk_cell BK158.out 11).trans rfl,(blk_cell BK172.out 0).trans rfl,(blk_cell BK172.out 1).trans rfl,(blk_cell BK172.out 2).trans rfl,(blk_cell BK172.out 3).trans rfl,(blk_cell BK172.out 4).trans rfl,(blk_cell BK172.out 5).trans rfl,(blk_cell BK172.out 6).trans rfl,(blk_cell BK172.out 7).trans rfl,(blk_cell BK172.out 8).trans rfl,(blk_cell BK172.out 9).trans rfl,(blk_cell BK172.out 10).trans rfl,(blk_cell BK172.out 11).trans rfl⟩ (fun hHeld => ?_)
          clear hK K
          refine norm_ (a' := ?_) ?_ ?_
          rotate_left
          ·
           show Act.put _ (some 55) _ = _
           simp only [Act.put,List.setIfInBounds_toArray,List.set_cons_zero,List.set_cons_succ,i64_w,i32_w]
           rfl
          refine pure_ (i:=3) (N:=some 56) (v:=?_) (a' := ?_) #[true,true,true,true,false,false,false,false,false,false,false,false,false,false,false,false,false,false,false] rfl rfl (any_of HT_.out (by kernel_rfl)) (fun _ _ _ h => h) (Or.inl ⟨by rfl,?_⟩) ?_ ?_
          rotate_left
          ·
           intro w'
           go_simp
           with_reducible rfl
          rotate_left
          ·
           simp only [Act.put,List.setIfInBounds_toArray,List.set_cons_zero,List.set_cons_succ,i64_w,i32_w]
           rfl
          refine pure_ (i:=4) (N:=some 57) (v:=?_) (a' := ?_) #[true,true,true,true,true,false,false,false,false,false,false,false,false,false,false,false,false,false,false] rfl rfl (any_of HT_.out (by kernel_rfl)) (fun _ _ _ h => h) (Or.inl ⟨by rfl,?_⟩) ?_ ?_
          rotate_left
          ·
           intro w'
           go_simp
           with_reducible rfl
          rotate_left
          ·
           simp only [Act.put,List.setIfInBounds_toArray,List.set_cons_zero,List.set_cons_succ,i64_w,i32_w]
           rfl
          refine pure_ (i:=5) (N:=some 58) (v:=undef) (a' := ?_) #[true,true,true,true,true,true,false,false,false,false,false,false,false,false,false,false,false,false,false] rfl rfl (any_of HT_.out (by kernel_rfl)) (fun _ _ _ h => h) (Or.inr ⟨by rfl,rfl⟩) ?_ ?_
          rotate_left
          ·
           simp only [Act.put,List.setIfInBounds_toArray,List.set_cons_zero,List.set_cons_succ,i64_w,i32_w]
           rfl
          refine pure_ (i:=6) (N:=some 59) (v:=undef) (a' := ?_) #[true,true,true,true,true,true,true,false,false,false,false,false,false,false,false,false,false,false,false] rfl rfl (any_of HT_.out (by kernel_rfl)) (fun _ _ _ h => h) (Or.inr ⟨by rfl,rfl⟩) ?_ ?_
          rotate_left
          ·
           simp only [Act.put,List.setIfInBounds_toArray,List.set_cons_zero,List.set_cons_succ,i64_w,i32_w]
           rfl
          refine pure_ (i:=7) (N:=some 60) (v:=undef) (a' := ?_) #[true,true,true,true,true,true,true,true,false,false,false,false,false,false,false,false,false,false,false] rfl rfl (any_of HT_.out (by kernel_rfl)) (fun _ _ _ h => h) (Or.inr ⟨by rfl,rfl⟩) ?_ ?_
          rotate_left
          ·
           simp only [Act.put,List.setIfInBounds_toArray,List.set_cons_zero,List.set_cons_succ,i64_w,i32_w]
           rfl
          refine pure_ (i:=8) (N:=some 61) (v:=?_) (a' := ?_) #[true,true,true,true,true,true,true,true,true,false,false,false,false,false,false,false,false,false,false] rfl rfl (any_of HT_.out (by kernel_rfl)) (fun _ _ _ h => h) (Or.inl ⟨by rfl,?_⟩) ?_ ?_
          rotate_left
          ·
           intro w'
           go_simp
           with_reducible rfl
          rotate_left
          ·
           simp only [Act.put,List.setIfInBounds_toArray,List.set_cons_zero,List.set_cons_succ,i64_w,i32_w]
           rfl
          refine pure_ (i:=9) (N:=some 62) (v:=?_) (a' := ?_) #[true,true,true,true,true,true,true,true,true,true,false,false,false,false,false,false,false,false,false] rfl rfl (any_of HT_.out (by kernel_rfl)) (fun _ _ _ h => h) (Or.inl ⟨by rfl,?_⟩) ?_ ?_
          rotate_left
          ·
           intro w'
           go_simp
           with_reducible rfl
          rotate_left
          ·
           simp only [Act.put,List.setIfInBounds_toArray,List.set_cons_zero,List.set_cons_succ,i64_w,i32_w]
           rfl
          refine pure_ (i:=10) (N:=some 63) (v:=undef) (a' := ?_) #[true,true,true,true,true,true,true,true,true,true,true,false,false,false,false,false,false,false,false] rfl rfl (any_of HT_.out (by kernel_rfl)) (fun _ _ _ h => h) (Or.inr ⟨by rfl,rfl⟩) ?_ ?_
          rotate_left
          ·
           simp only [Act.put,List.setIfInBounds_toArray,List.set_cons_zero,List.set_cons_succ,i64_w,i32_w]
           rfl
          refine pure_ (i:=11) (N:=some 64) (v:=undef) (a' := ?_) #[true,true,true,true,true,true,true,true,true,true,true,true,false,false,false,false,false,false,false] rfl rfl (any_of HT_.out (by kernel_rfl)) (fun _ _ _ h => h) (Or.inr ⟨by rfl,rfl⟩) ?_ ?_
          rotate_left
          ·
           simp only [Act.put,List.setIfInBounds_toArray,List.set_cons_zero,List.set_cons_succ,i64_w,i32_w]
           rfl
          refine pure_ (i:=12) (N:=some 65) (v:=undef) (a' := ?_) #[true,true,true,true,true,true,true,true,true,true,true,true,true,false,false,false,false,false,false] rfl rfl (any_of HT_.out (by kernel_rfl)) (fun _ _ _ h => h) (Or.inr ⟨by rfl,rfl⟩) ?_ ?_
          rotate_left
          ·
           simp only [Act.put,List.setIfInBounds_toArray,List.set_cons_zero,List.set_cons_succ,i64_w,i32_w]
           rfl
          refine pure_ (i:=13) (N:=some 66) (v:=undef) (a' := ?_) #[true,true,true,true,true,true,true,true,true,true,true,true,true,true,false,false,false,false,false] rfl rfl (any_of HT_.out (by kernel_rfl)) (fun _ _ _ h => h) (Or.inr ⟨by rfl,rfl⟩) ?_ ?_
          rotate_left
          ·
           simp only [Act.put,List.setIfInBounds_toArray,List.set_cons_zero,List.set_cons_succ,i64_w,i32_w]
           rfl
          refine pure_ (i:=14) (N:=some 67) (v:=undef) (a' := ?_) #[true,true,true,true,true,true,true,true,true,true,true,true,true,true,true,false,false,false,false] rfl rfl (any_of HT_.out (by kernel_rfl)) (fun _ _ _ h => h) (Or.inr ⟨by rfl,rfl⟩) ?_ ?_
          rotate_left
          ·
           simp only [Act.put,List.setIfInBounds_toArray,List.set_cons_zero,List.set_cons_succ,i64_w,i32_w]
           rfl
          refine pure_ (i:=15) (N:=some 68) (v:=undef) (a' := ?_) #[true,true,true,true,true,true,true,true,true,true,true,true,true,true,true,true,false,false,false] rfl rfl (any_of HT_.out (by kernel_rfl)) (fun _ _ _ h => h) (Or.inr ⟨by rfl,rfl⟩) ?_ ?_
          rotate_left
          ·
           simp only [Act.put,List.setIfInBounds_toArray,List.set_cons_zero,List.set_cons_succ,i64_w,i32_w]
           rfl
          refine pure_ (i:=16) (N:=some 69) (v:=undef) (a' := ?_) #[true,true,true,true,true,true,true,true,true,true,true,true,true,true,true,true,true,false,false] rfl rfl (any_of HT_.out (by kernel_rfl)) (fun _ _ _ h => h) (Or.inr ⟨by rfl,rfl⟩) ?_ ?_
          rotate_left
          ·
           simp only [Act.put,List.setIfInBounds_toArray,List.set_cons_zero,List.set_cons_succ,i64_w,i32_w]
           rfl
          refine pure_ (i:=17) (N:=some 70) (v:=undef) (a' := ?_) #[true,true,true,true,true,true,true,true,true,true,true,true,true,true,true,true,true,true,false] rfl rfl (any_of HT_.out (by kernel_rfl)) (fun _ _ _ h => h) (Or.inr ⟨by rfl,rfl⟩) ?_ ?_
          rotate_left
          ·
           simp only [Act.put,List.setIfInBounds_toArray,List.set_cons_zero,List.set_cons_succ,i64_w,i32_w]
           rfl
          refine pure_ (i:=18) (N:=some 71) (v:=?_) (a' := ?_) #[true,true,true,true,true,true,true,true,true,true,true,true,true,true,true,true,true,true,true] rfl rfl (any_of HT_.out (by kernel_rfl)) (fun _ _ _ h => h) (Or.inl ⟨by rfl,?_⟩) ?_ ?_
          rotate_left
          ·
           intro w'
           go_simp
           with_reducible rfl
          rotate_left
          ·
           simp only [Act.put,List.setIfInBounds_toArray,List.set_cons_zero,List.set_cons_succ,i64_w,i32_w]
           rfl
          refine done_ (done_of HT_.out (by kernel_rfl)) ?_
          try go_wp2
          go_meet
          case rel => exact ⟨_,(true),(by first | rfl | (simp;done) | (simp [*];done)),H',⟨by have := HK1.out;first | omega | exact Nat.le_refl _⟩,⟨by (with_reducible repeat (first | apply Kd.R_alloc | apply Kd.R_drewN | apply Kd.R_drew));exact HO_3.out⟩,⟨by (with_reducible repeat (first | refine blk_drewN ?_ _ | refine blk_drew ?_ | refine blk_alloc ?_ _));exact BK137.out⟩,⟨by (with_reducible repeat (first | refine blk_drewN ?_ _ | refine blk_drew ?_ | refine blk_alloc ?_ _));exact BK158.out⟩,⟨by (with_reducible repeat (first | refine blk_drewN ?_ _ | refine blk_drew ?_ | refine blk_alloc ?_ _));exact BK172.out⟩,⟨by repeat (first | (with_reducible first | exact HB.out | apply below_alloc | apply pw_below_drewN | apply below_drew1 | refine below_set ?_ (Aside0.out (by assumption))) | exact HB.out)⟩⟩
        case rest =>
         clear HC33
         (try clear c1);(try clear p1);(try clear q1);(try clear hx1);(try clear p2);(try clear c3);(try clear c4);(try clear c16);(try clear p17);(try clear q17);(try clear hx17);(try clear c35);(try clear c36);(try clear c36b0);(try clear c36b1);(try clear c36b2);(try clear c39);(try clear c39b0);(try clear c39b1);(try clear c40);(try clear c40b0);(try clear c40b1);(try clear hx177_0);(try clear hx177_1);(try clear hx177_10);(try clear hx177_11);(try clear hx177_2);(try clear hx177_3);(try clear hx177_4);(try clear hx177_5);(try clear hx177_6);(try clear hx177_7);(try clear hx177_8);(try clear hx177_9);(try clear p177);(try clear q177)
         obtain ⟨kq,x71_32,rfl,HA,HJ32,HO_3,BK137,BK158,BK172,HB⟩ := hcut
         cases kq with
         | zero => exact absurd HA.out (by simp [arrearslaw8_LedgerTotals.j1])
         | succ kj32 =>
          have H := HA.out
          clear HA
          simp only [arrearslaw8_LedgerTotals.j1] at H
          by_cases c47 : x71_32 = true
          ·
           subst c47
           have H1 : (none) = some r := by rw [if_pos rfl] at H;exact H
           clear H
           have H := H1
           clear H1
           exact absurd H (by simp)
          ·
           replace c47 := Bool.eq_false_iff.mpr c47
           subst c47
           have H1 : (if (y141.length : Int) ≤ (y138.length : Int) then (arrearslaw8_LedgerTotals.l1 kj32 l0 (y138.take (y141.length : Int).toNat) ([] : List (S32)) 0) else (none)) = some r := by rw [if_neg (show ¬ (false = true) by decide)] at H;exact H
           clear H
           have H := H1
           clear H1
           by_cases c48 : (y141.length : Int) ≤ (y138.length : Int)
           ·
            rw [if_pos c48] at H
            have c48b0 := eq_true c48
            have c48b1 : decide ((y141.length : Int) ≤ (y138.length : Int)) = true := decide_eq_true c48
            clear c48
            obtain ⟨y179,hy179⟩ : ∃ y_ : List (S32),y_ = (y138.take (y141.length : Int).toNat) := ⟨_,rfl⟩
            replace H : (arrearslaw8_LedgerTotals.l1 kj32 l0 y179 ([] : List (S32)) 0) = some r := by first | (rw [hy179];with_reducible exact H) | (have H2_ := (Option.bind_some _ _).symm.trans H;rw [hy179];with_reducible exact H2_) | (have H2_ := (Option.bind_some _ _).symm.trans H;with_reducible exact H2_) | with_reducible exact H | (rw [hy179];exact H) | exact H
            have Ny179 := Aside0.mk hy179
            clear hy179
            have H' := Aside0.mk H
            clear H
            have q49 : ((y141.length : Int) : Int) ≤ ((y138.length : Int) : Int) := of_decide_eq_true (by first | (with_reducible assumption) | assumption)
            obtain ⟨i049,hi049,_,hsz49,_⟩ := info_parts info32
            have hcut49 := cut_to (P:=Try.prog) 29 32 .i64 Try.underlying29 hi049 Ao15 y138.length co15 (y141.length : Int) (Int.natCast_nonneg _) q49 (Kd.R_reads' HO_3.out).2.1
            have hr49 := Kd.R_take (m:=((y141.length : Int) : Int).toNat) HO_3.out (by omega)
            have hy49 : y179.length = ((y141.length : Int) : Int).toNat := (by rw [Ny179.out,List.length_take];omega)
            rw [← Ny179.out] at hr49
            rw [← hy49] at hr49 hcut49
            clear hy49 hi049 hsz49 HO_3
            have HO181 := Aside0.mk hr49
            clear hr49
            replace q49 := eq_true q49
            have e_y179 : y179 = y141 := (by rw [Ny179.out,Int.toNat_natCast,KY14.out];exact Ny141.out.symm)
            subst e_y179
            go_wp2
            go_loopg [11,12] kj32 (fun kq v11 v12 w' => ∃ (x5_3 : List (S32)) (x11_3 : List (S32)) (x12_3 : Int) (x138000_3 : Int) (x138001_3 : Int) (x138002_3 : Int) (x138003_3 : Int) (x138004_3 : Int) (x138005_3 : Int) (x138006_3 : Int) (x138007_3 : Int) (x138008_3 : Int) (x138009_3 : Int) (x138010_3 : Int) (x138011_3 : Int) (x159000_3 : Int) (x159001_3 : Int) (x159002_3 : Int) (x159003_3 : Int) (x159004_3 : Int) (x159005_3 : Int) (x159006_3 : Int) (x159007_3 : Int) (x159008_3 : Int) (x159009_3 : Int) (x159010_3 : Int) (x159011_3 : Int) (x173000_3 : Int) (x173001_3 : Int) (x173002_3 : Int) (x173003_3 : Int) (x173004_3 : Int) (x173005_3 : Int) (x173006_3 : Int) (x173007_3 : Int) (x173008_3 : Int) (x173009_3 : Int) (x173010_3 : Int) (x173011_3 : Int),v12 = .int .i64 x12_3 ∧ Aside0 (arrearslaw8_LedgerTotals.l1 kq l0 x5_3 x11_3 x12_3 = some r) ∧ Aside0 (kq ≤ kj32) ∧ Aside0 (Kd.R k32 32 w' w.heap.size (fun k_ => some k_ ≠ (v11 : Value).ownBlock ∧ k_ ≠ gb137 ∧ k_ ≠ gb158 ∧ k_ ≠ gb172) (.slice Ao15 y179.length co15) x5_3) ∧ Aside0 (Kd.R k32 32 w' w.heap.size (fun k_ => some k_ ≠ ((.slice Ao15 y179.length co15) : Value).ownBlock ∧ k_ ≠ gb137 ∧ k_ ≠ gb158 ∧ k_ ≠ gb172) v11 x11_3) ∧ Aside0 (w'.heap[gb137]? = some (.cells #[.int .i64 x138000_3, .int .i64 x138001_3, .int .i64 x138002_3, .int .i64 x138003_3, .int .i64 x138004_3, .int .i64 x138005_3, .int .i64 x138006_3, .int .i64 x138007_3, .int .i64 x138008_3, .int .i64 x138009_3, .int .i64 x138010_3, .int .i64 x138011_3] 32 (0,0))) ∧ Aside0 (w'.heap[gb158]? = some (.cells #[.int .i64 x159000_3, .int .i64 x159001_3, .int .i64 x159002_3, .int .i64 x159003_3, .int .i64 x159004_3, .int .i64 x159005_3, .int .i64 x159006_3, .int .i64 x159007_3, .int .i64 x159008_3, .int .i64 x159009_3, .int .i64 x159010_3, .int .i64 x159011_3] 32 (0,0))) ∧ Aside0 (w'.heap[gb172]? = some (.cells #[.int .i64 x173000_3, .int .i64 x173001_3, .int .i64 x173002_3, .int .i64 x173003_3, .int .i64 x173004_3, .int .i64 x173005_3, .int .i64 x173006_3, .int .i64 x173007_3, .int .i64 x173008_3, .int .i64 x173009_3, .int .i64 x173010_3, .int .i64 x173011_3] 32 (0,0))) ∧ Aside0 (Below w.heap.size w w'))
            case atStart => exact ⟨(y179),(([] : List (S32))),(0),(0),(0),(0),(0),(0),((-77)),(0),(0),(0),(0),(0),(0),(t145),(t146),(t147),(t148),(t149),(t150),(t151),(t152),(t153),(t154),(t155),(t156),(t159),(t160),(t161),(t162),(t163),(t164),(t165),(t166),(t167),(t168),(t169),(t170),(by first | rfl | (simp;done) | (simp [*];done)),H',⟨Nat.le_refl _⟩,⟨by (with_reducible repeat (first | apply Kd.R_alloc | apply Kd.R_drewN | apply Kd.R_drew));exact Kd.R_mono HO181.out (fun _ hk => ⟨(by simp [Value.ownBlock]),⟨hk.1,⟨hk.2.1,hk.2.2⟩⟩⟩)⟩,⟨by first | exact Kd.R_nil _ _ _ _ _ | exact Kd.N_nil _ _ _ _ _ | exact Kd.V_nil _ _ _ _ _ | exact Kd.Q_nil _ _ _ _ _ | exact Kd.S_nil _ _ _ _ _⟩,⟨by (with_reducible repeat (first | refine blk_drewN ?_ _ | refine blk_drew ?_ | refine blk_alloc ?_ _));exact BK137.out⟩,⟨by (with_reducible repeat (first | refine blk_drewN ?_ _ | refine blk_drew ?_ | refine blk_alloc ?_ _));exact BK158.out⟩,⟨by (with_reducible repeat (first | refine blk_drewN ?_ _ | refine blk_drew ?_ | refine blk_alloc ?_ _));exact BK172.out⟩,⟨by repeat (first | (with_reducible first | exact HB.out | apply below_alloc | apply pw_below_drewN | apply below_drew1 | refine below_set ?_ (Aside0.out (by assumption))) | exact HB.out)⟩⟩
            case round =>
             clear H'
             (try clear c1);(try clear p1 p1);(try clear q1 q1);(try clear hx1);(try clear p2 p2);(try clear c3);(try clear c4);(try clear q4);(try clear c16);(try clear p17 p17);(try clear q17 q17);(try clear hx17);(try clear c35);(try clear c36);(try clear c36b0);(try clear c36b1);(try clear c36b2);(try clear c39);(try clear c39b0);(try clear c39b1);(try clear c40);(try clear c40b0);(try clear c40b1);(try clear c47);(try clear c48);(try clear c48b0);(try clear c48b1);(try clear q49 q49);(try clear hx177_0);(try clear hx177_1);(try clear hx177_10);(try clear hx177_11);(try clear hx177_2);(try clear hx177_3);(try clear hx177_4);(try clear hx177_5);(try clear hx177_6);(try clear hx177_7);(try clear hx177_8);(try clear hx177_9);(try clear p177);(try clear q177)
             obtain ⟨x5_3,x11_3,x12_3,x138000_3,x138001_3,x138002_3,x138003_3,x138004_3,x138005_3,x138006_3,x138007_3,x138008_3,x138009_3,x138010_3,x138011_3,x159000_3,x159001_3,x159002_3,x159003_3,x159004_3,x159005_3,x159006_3,x159007_3,x159008_3,x159009_3,x159010_3,x159011_3,x173000_3,x173001_3,x173002_3,x173003_3,x173004_3,x173005_3,x173006_3,x173007_3,x173008_3,x173009_3,x173010_3,x173011_3,rfl,HA,HK3,HO_5,HO_11,BK137,BK158,BK172,HB⟩ := hrel
             have hl5_3 := (Kd.R_reads' HO_5.out).1
             rw [hl5_3] at HO_5
             (try simp only [hl5_3])
             (try simp only [hl5_3] at BK137)
             (try simp only [hl5_3] at BK158)
             (try simp only [hl5_3] at BK172)
             (try simp only [hl5_3] at HO_11)
             cases gk with
             | zero => exact absurd HA.out (by simp [arrearslaw8_LedgerTotals.l1])
             | succ k3 =>
              have H := HA.out
              clear HA
              simp only [arrearslaw8_LedgerTotals.l1] at H
              by_cases c50 : x12_3 < (l0.length : Int)
              ·
               rw [if_pos c50] at H
               have c50b0 : decide (x12_3 < (l0.length : Int)) = true := decide_eq_true c50
               clear c50
               by_cases c51 : 0 ≤ x12_3
               ·
                rw [if_pos c51] at H
                have c51b0 : decide (0 ≤ x12_3) = true := decide_eq_true c51
                clear c51
                by_cases c52 : x12_3 < (x5_3.length : Int)
                ·
                 rw [if_pos c52] at H
                 have c52b0 : decide (x12_3 < (x5_3.length : Int)) = true := decide_eq_true c52
                 clear c52
                 obtain ⟨ji53,hji53⟩ : ∃ j_ : Int,(Int.tmod x12_3 12) = j_ := ⟨_,rfl⟩
                 replace H : (if 0 ≤ (ji53) then (if (ji53) < 12 then (if x11_3.length < 1466015503701 then (arrearslaw8_LedgerTotals.l1 k3 l0 (x5_3.set (x12_3 : Int).toNat (⟨(⟨putI (ji53) 0 (wrap64 (Int.tdiv (selI [(rd_T32 x5_3 x12_3).f0.f0,(rd_T32 x5_3 x12_3).f0.f1,(rd_T32 x5_3 x12_3).f0.f2,(rd_T32 x5_3 x12_3).f0.f3,(rd_T32 x5_3 x12_3).f0.f4,(rd_T32 x5_3 x12_3).f0.f5,(rd_T32 x5_3 x12_3).f0.f6,(rd_T32 x5_3 x12_3).f0.f7,(rd_T32 x5_3 x12_3).f0.f8,(rd_T32 x5_3 x12_3).f0.f9,(rd_T32 x5_3 x12_3).f0.f10,(rd_T32 x5_3 x12_3).f0.f11] (ji53)) 2)) ((rd_T32 x5_3 x12_3).f0.f0),putI (ji53) 1 (wrap64 (Int.tdiv (selI [(rd_T32 x5_3 x12_3).f0.f0,(rd_T32 x5_3 x12_3).f0.f1,(rd_T32 x5_3 x12_3).f0.f2,(rd_T32 x5_3 x12_3).f0.f3,(rd_T32 x5_3 x12_3).f0.f4,(rd_T32 x5_3 x12_3).f0.f5,(rd_T32 x5_3 x12_3).f0.f6,(rd_T32 x5_3 x12_3).f0.f7,(rd_T32 x5_3 x12_3).f0.f8,(rd_T32 x5_3 x12_3).f0.f9,(rd_T32 x5_3 x12_3).f0.f10,(rd_T32 x5_3 x12_3).f0.f11] (ji53)) 2)) ((rd_T32 x5_3 x12_3).f0.f1),putI (ji53) 2 (wrap64 (Int.tdiv (selI [(rd_T32 x5_3 x12_3).f0.f0,(rd_T32 x5_3 x12_3).f0.f1,(rd_T32 x5_3 x12_3).f0.f2,(rd_T32 x5_3 x12_3).f0.f3,(rd_T32 x5_3 x12_3).f0.f4,(rd_T32 x5_3 x12_3).f0.f5,(rd_T32 x5_3 x12_3).f0.f6,(rd_T32 x5_3 x12_3).f0.f7,(rd_T32 x5_3 x12_3).f0.f8,(rd_T32 x5_3 x12_3).f0.f9,(rd_T32 x5_3 x12_3).f0.f10,(rd_T32 x5_3 x12_3).f0.f11] (ji53)) 2)) ((rd_T32 x5_3 x12_3).f0.f2),putI (ji53) 3 (wrap64 (Int.tdiv (selI [(rd_T32 x5_3 x12_3).f0.f0,(rd_T32 x5_3 x12_3).f0.f1,(rd_T32 x5_3 x12_3).f0.f2,(rd_T32 x5_3 x12_3).f0.f3,(rd_T32 x5_3 x12_3).f0.f4,(rd_T32 x5_3 x12_3).f0.f5,(rd_T32 x5_3 x12_3).f0.f6,(rd_T32 x5_3 x12_3).f0.f7,(rd_T32 x5_3 x12_3).f0.f8,(rd_T32 x5_3 x12_3).f0.f9,(rd_T32 x5_3 x12_3).f0.f10,(rd_T32 x5_3 x12_3).f0.f11] (ji53)) 2)) ((rd_T32 x5_3 x12_3).f0.f3),putI (ji53) 4 (wrap64 (Int.tdiv (selI [(rd_T32 x5_3 x12_3).f0.f0,(rd_T32 x5_3 x12_3).f0.f1,(rd_T32 x5_3 x12_3).f0.f2,(rd_T32 x5_3 x12_3).f0.f3,(rd_T32 x5_3 x12_3).f0.f4,(rd_T32 x5_3 x12_3).f0.f5,(rd_T32 x5_3 x12_3).f0.f6,(rd_T32 x5_3 x12_3).f0.f7,(rd_T32 x5_3 x12_3).f0.f8,(rd_T32 x5_3 x12_3).f0.f9,(rd_T32 x5_3 x12_3).f0.f10,(rd_T32 x5_3 x12_3).f0.f11] (ji53)) 2)) ((rd_T32 x5_3 x12_3).f0.f4),putI (ji53) 5 (wrap64 (Int.tdiv (selI [(rd_T32 x5_3 x12_3).f0.f0,(rd_T32 x5_3 x12_3).f0.f1,(rd_T32 x5_3 x12_3).f0.f2,(rd_T32 x5_3 x12_3).f0.f3,(rd_T32 x5_3 x12_3).f0.f4,(rd_T32 x5_3 x12_3).f0.f5,(rd_T32 x5_3 x12_3).f0.f6,(rd_T32 x5_3 x12_3).f0.f7,(rd_T32 x5_3 x12_3).f0.f8,(rd_T32 x5_3 x12_3).f0.f9,(rd_T32 x5_3 x12_3).f0.f10,(rd_T32 x5_3 x12_3).f0.f11] (ji53)) 2)) ((rd_T32 x5_3 x12_3).f0.f5),putI (ji53) 6 (wrap64 (Int.tdiv (selI [(rd_T32 x5_3 x12_3).f0.f0,(rd_T32 x5_3 x12_3).f0.f1,(rd_T32 x5_3 x12_3).f0.f2,(rd_T32 x5_3 x12_3).f0.f3,(rd_T32 x5_3 x12_3).f0.f4,(rd_T32 x5_3 x12_3).f0.f5,(rd_T32 x5_3 x12_3).f0.f6,(rd_T32 x5_3 x12_3).f0.f7,(rd_T32 x5_3 x12_3).f0.f8,(rd_T32 x5_3 x12_3).f0.f9,(rd_T32 x5_3 x12_3).f0.f10,(rd_T32 x5_3 x12_3).f0.f11] (ji53)) 2)) ((rd_T32 x5_3 x12_3).f0.f6),putI (ji53) 7 (wrap64 (Int.tdiv (selI [(rd_T32 x5_3 x12_3).f0.f0,(rd_T32 x5_3 x12_3).f0.f1,(rd_T32 x5_3 x12_3).f0.f2,(rd_T32 x5_3 x12_3).f0.f3,(rd_T32 x5_3 x12_3).f0.f4,(rd_T32 x5_3 x12_3).f0.f5,(rd_T32 x5_3 x12_3).f0.f6,(rd_T32 x5_3 x12_3).f0.f7,(rd_T32 x5_3 x12_3).f0.f8,(rd_T32 x5_3 x12_3).f0.f9,(rd_T32 x5_3 x12_3).f0.f10,(rd_T32 x5_3 x12_3).f0.f11] (ji53)) 2)) ((rd_T32 x5_3 x12_3).f0.f7),putI (ji53) 8 (wrap64 (Int.tdiv (selI [(rd_T32 x5_3 x12_3).f0.f0,(rd_T32 x5_3 x12_3).f0.f1,(rd_T32 x5_3 x12_3).f0.f2,(rd_T32 x5_3 x12_3).f0.f3,(rd_T32 x5_3 x12_3).f0.f4,(rd_T32 x5_3 x12_3).f0.f5,(rd_T32 x5_3 x12_3).f0.f6,(rd_T32 x5_3 x12_3).f0.f7,(rd_T32 x5_3 x12_3).f0.f8,(rd_T32 x5_3 x12_3).f0.f9,(rd_T32 x5_3 x12_3).f0.f10,(rd_T32 x5_3 x12_3).f0.f11] (ji53)) 2)) ((rd_T32 x5_3 x12_3).f0.f8),putI (ji53) 9 (wrap64 (Int.tdiv (selI [(rd_T32 x5_3 x12_3).f0.f0,(rd_T32 x5_3 x12_3).f0.f1,(rd_T32 x5_3 x12_3).f0.f2,(rd_T32 x5_3 x12_3).f0.f3,(rd_T32 x5_3 x12_3).f0.f4,(rd_T32 x5_3 x12_3).f0.f5,(rd_T32 x5_3 x12_3).f0.f6,(rd_T32 x5_3 x12_3).f0.f7,(rd_T32 x5_3 x12_3).f0.f8,(rd_T32 x5_3 x12_3).f0.f9,(rd_T32 x5_3 x12_3).f0.f10,(rd_T32 x5_3 x12_3).f0.f11] (ji53)) 2)) ((rd_T32 x5_3 x12_3).f0.f9),putI (ji53) 10 (wrap64 (Int.tdiv (selI [(rd_T32 x5_3 x12_3).f0.f0,(rd_T32 x5_3 x12_3).f0.f1,(rd_T32 x5_3 x12_3).f0.f2,(rd_T32 x5_3 x12_3).f0.f3,(rd_T32 x5_3 x12_3).f0.f4,(rd_T32 x5_3 x12_3).f0.f5,(rd_T32 x5_3 x12_3).f0.f6,(rd_T32 x5_3 x12_3).f0.f7,(rd_T32 x5_3 x12_3).f0.f8,(rd_T32 x5_3 x12_3).f0.f9,(rd_T32 x5_3 x12_3).f0.f10,(rd_T32 x5_3 x12_3).f0.f11] (ji53)) 2)) ((rd_T32 x5_3 x12_3).f0.f10),putI (ji53) 11 (wrap64 (Int.tdiv (selI [(rd_T32 x5_3 x12_3).f0.f0,(rd_T32 x5_3 x12_3).f0.f1,(rd_T32 x5_3 x12_3).f0.f2,(rd_T32 x5_3 x12_3).f0.f3,(rd_T32 x5_3 x12_3).f0.f4,(rd_T32 x5_3 x12_3).f0.f5,(rd_T32 x5_3 x12_3).f0.f6,(rd_T32 x5_3 x12_3).f0.f7,(rd_T32 x5_3 x12_3).f0.f8,(rd_T32 x5_3 x12_3).f0.f9,(rd_T32 x5_3 x12_3).f0.f10,(rd_T32 x5_3 x12_3).f0.f11] (ji53)) 2)) ((rd_T32 x5_3 x12_3).f0.f11)⟩ : S30)⟩ : S32)) (x11_3 ++ [(⟨(⟨putI (ji53) 0 (wrap64 (Int.tdiv (selI [(rd_T32 x5_3 x12_3).f0.f0,(rd_T32 x5_3 x12_3).f0.f1,(rd_T32 x5_3 x12_3).f0.f2,(rd_T32 x5_3 x12_3).f0.f3,(rd_T32 x5_3 x12_3).f0.f4,(rd_T32 x5_3 x12_3).f0.f5,(rd_T32 x5_3 x12_3).f0.f6,(rd_T32 x5_3 x12_3).f0.f7,(rd_T32 x5_3 x12_3).f0.f8,(rd_T32 x5_3 x12_3).f0.f9,(rd_T32 x5_3 x12_3).f0.f10,(rd_T32 x5_3 x12_3).f0.f11] (ji53)) 2)) ((rd_T32 x5_3 x12_3).f0.f0),putI (ji53) 1 (wrap64 (Int.tdiv (selI [(rd_T32 x5_3 x12_3).f0.f0,(rd_T32 x5_3 x12_3).f0.f1,(rd_T32 x5_3 x12_3).f0.f2,(rd_T32 x5_3 x12_3).f0.f3,(rd_T32 x5_3 x12_3).f0.f4,(rd_T32 x5_3 x12_3).f0.f5,(rd_T32 x5_3 x12_3).f0.f6,(rd_T32 x5_3 x12_3).f0.f7,(rd_T32 x5_3 x12_3).f0.f8,(rd_T32 x5_3 x12_3).f0.f9,(rd_T32 x5_3 x12_3).f0.f10,(rd_T32 x5_3 x12_3).f0.f11] (ji53)) 2)) ((rd_T32 x5_3 x12_3).f0.f1),putI (ji53) 2 (wrap64 (Int.tdiv (selI [(rd_T32 x5_3 x12_3).f0.f0,(rd_T32 x5_3 x12_3).f0.f1,(rd_T32 x5_3 x12_3).f0.f2,(rd_T32 x5_3 x12_3).f0.f3,(rd_T32 x5_3 x12_3).f0.f4,(rd_T32 x5_3 x12_3).f0.f5,(rd_T32 x5_3 x12_3).f0.f6,(rd_T32 x5_3 x12_3).f0.f7,(rd_T32 x5_3 x12_3).f0.f8,(rd_T32 x5_3 x12_3).f0.f9,(rd_T32 x5_3 x12_3).f0.f10,(rd_T32 x5_3 x12_3).f0.f11] (ji53)) 2)) ((rd_T32 x5_3 x12_3).f0.f2),putI (ji53) 3 (wrap64 (Int.tdiv (selI [(rd_T32 x5_3 x12_3).f0.f0,(rd_T32 x5_3 x12_3).f0.f1,(rd_T32 x5_3 x12_3).f0.f2,(rd_T32 x5_3 x12_3).f0.f3,(rd_T32 x5_3 x12_3).f0.f4,(rd_T32 x5_3 x12_3).f0.f5,(rd_T32 x5_3 x12_3).f0.f6,(rd_T32 x5_3 x12_3).f0.f7,(rd_T32 x5_3 x12_3).f0.f8,(rd_T32 x5_3 x12_3).f0.f9,(rd_T32 x5_3 x12_3).f0.f10,(rd_T32 x5_3 x12_3).f0.f11] (ji53)) 2)) ((rd_T32 x5_3 x12_3).f0.f3),putI (ji53) 4 (wrap64 (Int.tdiv (selI [(rd_T32 x5_3 x12_3).f0.f0,(rd_T32 x5_3 x12_3).f0.f1,(rd_T32 x5_3 x12_3).f0.f2,(rd_T32 x5_3 x12_3).f0.f3,(rd_T32 x5_3 x12_3).f0.f4,(rd_T32 x5_3 x12_3).f0.f5,(rd_T32 x5_3 x12_3).f0.f6,(rd_T32 x5_3 x12_3).f0.f7,(rd_T32 x5_3 x12_3).f0.f8,(rd_T32 x5_3 x12_3).f0.f9,(rd_T32 x5_3 x12_3).f0.f10,(rd_T32 x5_3 x12_3).f0.f11] (ji53)) 2)) ((rd_T32 x5_3 x12_3).f0.f4),putI (ji53) 5 (wrap64 (Int.tdiv (selI [(rd_T32 x5_3 x12_3).f0.f0,(rd_T32 x5_3 x12_3).f0.f1,(rd_T32 x5_3 x12_3).f0.f2,(rd_T32 x5_3 x12_3).f0.f3,(rd_T32 x5_3 x12_3).f0.f4,(rd_T32 x5_3 x12_3).f0.f5,(rd_T32 x5_3 x12_3).f0.f6,(rd_T32 x5_3 x12_3).f0.f7,(rd_T32 x5_3 x12_3).f0.f8,(rd_T32 x5_3 x12_3).f0.f9,(rd_T32 x5_3 x12_3).f0.f10,(rd_T32 x5_3 x12_3).f0.f11] (ji53)) 2)) ((rd_T32 x5_3 x12_3).f0.f5),putI (ji53) 6 (wrap64 (Int.tdiv (selI [(rd_T32 x5_3 x12_3).f0.f0,(rd_T32 x5_3 x12_3).f0.f1,(rd_T32 x5_3 x12_3).f0.f2,(rd_T32 x5_3 x12_3).f0.f3,(rd_T32 x5_3 x12_3).f0.f4,(rd_T32 x5_3 x12_3).f0.f5,(rd_T32 x5_3 x12_3).f0.f6,(rd_T32 x5_3 x12_3).f0.f7,(rd_T32 x5_3 x12_3).f0.f8,(rd_T32 x5_3 x12_3).f0.f9,(rd_T32 x5_3 x12_3).f0.f10,(rd_T32 x5_3 x12_3).f0.f11] (ji53)) 2)) ((rd_T32 x5_3 x12_3).f0.f6),putI (ji53) 7 (wrap64 (Int.tdiv (selI [(rd_T32 x5_3 x12_3).f0.f0,(rd_T32 x5_3 x12_3).f0.f1,(rd_T32 x5_3 x12_3).f0.f2,(rd_T32 x5_3 x12_3).f0.f3,(rd_T32 x5_3 x12_3).f0.f4,(rd_T32 x5_3 x12_3).f0.f5,(rd_T32 x5_3 x12_3).f0.f6,(rd_T32 x5_3 x12_3).f0.f7,(rd_T32 x5_3 x12_3).f0.f8,(rd_T32 x5_3 x12_3).f0.f9,(rd_T32 x5_3 x12_3).f0.f10,(rd_T32 x5_3 x12_3).f0.f11] (ji53)) 2)) ((rd_T32 x5_3 x12_3).f0.f7),putI (ji53) 8 (wrap64 (Int.tdiv (selI [(rd_T32 x5_3 x12_3).f0.f0,(rd_T32 x5_3 x12_3).f0.f1,(rd_T32 x5_3 x12_3).f0.f2,(rd_T32 x5_3 x12_3).f0.f3,(rd_T32 x5_3 x12_3).f0.f4,(rd_T32 x5_3 x12_3).f0.f5,(rd_T32 x5_3 x12_3).f0.f6,(rd_T32 x5_3 x12_3).f0.f7,(rd_T32 x5_3 x12_3).f0.f8,(rd_T32 x5_3 x12_3).f0.f9,(rd_T32 x5_3 x12_3).f0.f10,(rd_T32 x5_3 x12_3).f0.f11] (ji53)) 2)) ((rd_T32 x5_3 x12_3).f0.f8),putI (ji53) 9 (wrap64 (Int.tdiv (selI [(rd_T32 x5_3 x12_3).f0.f0,(rd_T32 x5_3 x12_3).f0.f1,(rd_T32 x5_3 x12_3).f0.f2,(rd_T32 x5_3 x12_3).f0.f3,(rd_T32 x5_3 x12_3).f0.f4,(rd_T32 x5_3 x12_3).f0.f5,(rd_T32 x5_3 x12_3).f0.f6,(rd_T32 x5_3 x12_3).f0.f7,(rd_T32 x5_3 x12_3).f0.f8,(rd_T32 x5_3 x12_3).f0.f9,(rd_T32 x5_3 x12_3).f0.f10,(rd_T32 x5_3 x12_3).f0.f11] (ji53)) 2)) ((rd_T32 x5_3 x12_3).f0.f9),putI (ji53) 10 (wrap64 (Int.tdiv (selI [(rd_T32 x5_3 x12_3).f0.f0,(rd_T32 x5_3 x12_3).f0.f1,(rd_T32 x5_3 x12_3).f0.f2,(rd_T32 x5_3 x12_3).f0.f3,(rd_T32 x5_3 x12_3).f0.f4,(rd_T32 x5_3 x12_3).f0.f5,(rd_T32 x5_3 x12_3).f0.f6,(rd_T32 x5_3 x12_3).f0.f7,(rd_T32 x5_3 x12_3).f0.f8,(rd_T32 x5_3 x12_3).f0.f9,(rd_T32 x5_3 x12_3).f0.f10,(rd_T32 x5_3 x12_3).f0.f11] (ji53)) 2)) ((rd_T32 x5_3 x12_3).f0.f10),putI (ji53) 11 (wrap64 (Int.tdiv (selI [(rd_T32 x5_3 x12_3).f0.f0,(rd_T32 x5_3 x12_3).f0.f1,(rd_T32 x5_3 x12_3).f0.f2,(rd_T32 x5_3 x12_3).f0.f3,(rd_T32 x5_3 x12_3).f0.f4,(rd_T32 x5_3 x12_3).f0.f5,(rd_T32 x5_3 x12_3).f0.f6,(rd_T32 x5_3 x12_3).f0.f7,(rd_T32 x5_3 x12_3).f0.f8,(rd_T32 x5_3 x12_3).f0.f9,(rd_T32 x5_3 x12_3).f0.f10,(rd_T32 x5_3 x12_3).f0.f11] (ji53)) 2)) ((rd_T32 x5_3 x12_3).f0.f11)⟩ : S30)⟩ : S32)]) (wrap64 (x12_3 + 1))) else (none)) else (none)) else (none)) = some r := by first | (rw [hji53] at H;exact H) | (simp only [hji53] at H ⊢;exact H)
                 by_cases c54 : 0 ≤ (ji53)
                 ·
                  rw [if_pos c54] at H
                  have c54b0 : decide (0 ≤ (ji53)) = true := decide_eq_true c54
                  clear c54
                  by_cases c55 : (ji53) < 12
                  ·
                   rw [if_pos c55] at H
                   have c55b0 : decide ((ji53) < 12) = true := decide_eq_true c55
                   clear c55
                   obtain ⟨y185,hy185⟩ : ∃ y_ : List (S32),y_ = (x5_3.set (x12_3 : Int).toNat (⟨(⟨putI (ji53) 0 (wrap64 (Int.tdiv (selI [(rd_T32 x5_3 x12_3).f0.f0,(rd_T32 x5_3 x12_3).f0.f1,(rd_T32 x5_3 x12_3).f0.f2,(rd_T32 x5_3 x12_3).f0.f3,(rd_T32 x5_3 x12_3).f0.f4,(rd_T32 x5_3 x12_3).f0.f5,(rd_T32 x5_3 x12_3).f0.f6,(rd_T32 x5_3 x12_3).f0.f7,(rd_T32 x5_3 x12_3).f0.f8,(rd_T32 x5_3 x12_3).f0.f9,(rd_T32 x5_3 x12_3).f0.f10,(rd_T32 x5_3 x12_3).f0.f11] (ji53)) 2)) ((rd_T32 x5_3 x12_3).f0.f0),putI (ji53) 1 (wrap64 (Int.tdiv (selI [(rd_T32 x5_3 x12_3).f0.f0,(rd_T32 x5_3 x12_3).f0.f1,(rd_T32 x5_3 x12_3).f0.f2,(rd_T32 x5_3 x12_3).f0.f3,(rd_T32 x5_3 x12_3).f0.f4,(rd_T32 x5_3 x12_3).f0.f5,(rd_T32 x5_3 x12_3).f0.f6,(rd_T32 x5_3 x12_3).f0.f7,(rd_T32 x5_3 x12_3).f0.f8,(rd_T32 x5_3 x12_3).f0.f9,(rd_T32 x5_3 x12_3).f0.f10,(rd_T32 x5_3 x12_3).f0.f11] (ji53)) 2)) ((rd_T32 x5_3 x12_3).f0.f1),putI (ji53) 2 (wrap64 (Int.tdiv (selI [(rd_T32 x5_3 x12_3).f0.f0,(rd_T32 x5_3 x12_3).f0.f1,(rd_T32 x5_3 x12_3).f0.f2,(rd_T32 x5_3 x12_3).f0.f3,(rd_T32 x5_3 x12_3).f0.f4,(rd_T32 x5_3 x12_3).f0.f5,(rd_T32 x5_3 x12_3).f0.f6,(rd_T32 x5_3 x12_3).f0.f7,(rd_T32 x5_3 x12_3).f0.f8,(rd_T32 x5_3 x12_3).f0.f9,(rd_T32 x5_3 x12_3).f0.f10,(rd_T32 x5_3 x12_3).f0.f11] (ji53)) 2)) ((rd_T32 x5_3 x12_3).f0.f2),putI (ji53) 3 (wrap64 (Int.tdiv (selI [(rd_T32 x5_3 x12_3).f0.f0,(rd_T32 x5_3 x12_3).f0.f1,(rd_T32 x5_3 x12_3).f0.f2,(rd_T32 x5_3 x12_3).f0.f3,(rd_T32 x5_3 x12_3).f0.f4,(rd_T32 x5_3 x12_3).f0.f5,(rd_T32 x5_3 x12_3).f0.f6,(rd_T32 x5_3 x12_3).f0.f7,(rd_T32 x5_3 x12_3).f0.f8,(rd_T32 x5_3 x12_3).f0.f9,(rd_T32 x5_3 x12_3).f0.f10,(rd_T32 x5_3 x12_3).f0.f11] (ji53)) 2)) ((rd_T32 x5_3 x12_3).f0.f3),putI (ji53) 4 (wrap64 (Int.tdiv (selI [(rd_T32 x5_3 x12_3).f0.f0,(rd_T32 x5_3 x12_3).f0.f1,(rd_T32 x5_3 x12_3).f0.f2,(rd_T32 x5_3 x12_3).f0.f3,(rd_T32 x5_3 x12_3).f0.f4,(rd_T32 x5_3 x12_3).f0.f5,(rd_T32 x5_3 x12_3).f0.f6,(rd_T32 x5_3 x12_3).f0.f7,(rd_T32 x5_3 x12_3).f0.f8,(rd_T32 x5_3 x12_3).f0.f9,(rd_T32 x5_3 x12_3).f0.f10,(rd_T32 x5_3 x12_3).f0.f11] (ji53)) 2)) ((rd_T32 x5_3 x12_3).f0.f4),putI (ji53) 5 (wrap64 (Int.tdiv (selI [(rd_T32 x5_3 x12_3).f0.f0,(rd_T32 x5_3 x12_3).f0.f1,(rd_T32 x5_3 x12_3).f0.f2,(rd_T32 x5_3 x12_3).f0.f3,(rd_T32 x5_3 x12_3).f0.f4,(rd_T32 x5_3 x12_3).f0.f5,(rd_T32 x5_3 x12_3).f0.f6,(rd_T32 x5_3 x12_3).f0.f7,(rd_T32 x5_3 x12_3).f0.f8,(rd_T32 x5_3 x12_3).f0.f9,(rd_T32 x5_3 x12_3).f0.f10,(rd_T32 x5_3 x12_3).f0.f11] (ji53)) 2)) ((rd_T32 x5_3 x12_3).f0.f5),putI (ji53) 6 (wrap64 (Int.tdiv (selI [(rd_T32 x5_3 x12_3).f0.f0,(rd_T32 x5_3 x12_3).f0.f1,(rd_T32 x5_3 x12_3).f0.f2,(rd_T32 x5_3 x12_3).f0.f3,(rd_T32 x5_3 x12_3).f0.f4,(rd_T32 x5_3 x12_3).f0.f5,(rd_T32 x5_3 x12_3).f0.f6,(rd_T32 x5_3 x12_3).f0.f7,(rd_T32 x5_3 x12_3).f0.f8,(rd_T32 x5_3 x12_3).f0.f9,(rd_T32 x5_3 x12_3).f0.f10,(rd_T32 x5_3 x12_3).f0.f11] (ji53)) 2)) ((rd_T32 x5_3 x12_3).f0.f6),putI (ji53) 7 (wrap64 (Int.tdiv (selI [(rd_T32 x5_3 x12_3).f0.f0,(rd_T32 x5_3 x12_3).f0.f1,(rd_T32 x5_3 x12_3).f0.f2,(rd_T32 x5_3 x12_3).f0.f3,(rd_T32 x5_3 x12_3).f0.f4,(rd_T32 x5_3 x12_3).f0.f5,(rd_T32 x5_3 x12_3).f0.f6,(rd_T32 x5_3 x12_3).f0.f7,(rd_T32 x5_3 x12_3).f0.f8,(rd_T32 x5_3 x12_3).f0.f9,(rd_T32 x5_3 x12_3).f0.f10,(rd_T32 x5_3 x12_3).f0.f11] (ji53)) 2)) ((rd_T32 x5_3 x12_3).f0.f7),putI (ji53) 8 (wrap64 (Int.tdiv (selI [(rd_T32 x5_3 x12_3).f0.f0,(rd_T32 x5_3 x12_3).f0.f1,(rd_T32 x5_3 x12_3).f0.f2,(rd_T32 x5_3 x12_3).f0.f3,(rd_T32 x5_3 x12_3).f0.f4,(rd_T32 x5_3 x12_3).f0.f5,(rd_T32 x5_3 x12_3).f0.f6,(rd_T32 x5_3 x12_3).f0.f7,(rd_T32 x5_3 x12_3).f0.f8,(rd_T32 x5_3 x12_3).f0.f9,(rd_T32 x5_3 x12_3).f0.f10,(rd_T32 x5_3 x12_3).f0.f11] (ji53)) 2)) ((rd_T32 x5_3 x12_3).f0.f8),putI (ji53) 9 (wrap64 (Int.tdiv (selI [(rd_T32 x5_3 x12_3).f0.f0,(rd_T32 x5_3 x12_3).f0.f1,(rd_T32 x5_3 x12_3).f0.f2,(rd_T32 x5_3 x12_3).f0.f3,(rd_T32 x5_3 x12_3).f0.f4,(rd_T32 x5_3 x12_3).f0.f5,(rd_T32 x5_3 x12_3).f0.f6,(rd_T32 x5_3 x12_3).f0.f7,(rd_T32 x5_3 x12_3).f0.f8,(rd_T32 x5_3 x12_3).f0.f9,(rd_T32 x5_3 x12_3).f0.f10,(rd_T32 x5_3 x12_3).f0.f11] (ji53)) 2)) ((rd_T32 x5_3 x12_3).f0.f9),putI (ji53) 10 (wrap64 (Int.tdiv (selI [(rd_T32 x5_3 x12_3).f0.f0,(rd_T32 x5_3 x12_3).f0.f1,(rd_T32 x5_3 x12_3).f0.f2,(rd_T32 x5_3 x12_3).f0.f3,(rd_T32 x5_3 x12_3).f0.f4,(rd_T32 x5_3 x12_3).f0.f5,(rd_T32 x5_3 x12_3).f0.f6,(rd_T32 x5_3 x12_3).f0.f7,(rd_T32 x5_3 x12_3).f0.f8,(rd_T32 x5_3 x12_3).f0.f9,(rd_T32 x5_3 x12_3).f0.f10,(rd_T32 x5_3 x12_3).f0.f11] (ji53)) 2)) ((rd_T32 x5_3 x12_3).f0.f10),putI (ji53) 11 (wrap64 (Int.tdiv (selI [(rd_T32 x5_3 x12_3).f0.f0,(rd_T32 x5_3 x12_3).f0.f1,(rd_T32 x5_3 x12_3).f0.f2,(rd_T32 x5_3 x12_3).f0.f3,(rd_T32 x5_3 x12_3).f0.f4,(rd_T32 x5_3 x12_3).f0.f5,(rd_T32 x5_3 x12_3).f0.f6,(rd_T32 x5_3 x12_3).f0.f7,(rd_T32 x5_3 x12_3).f0.f8,(rd_T32 x5_3 x12_3).f0.f9,(rd_T32 x5_3 x12_3).f0.f10,(rd_T32 x5_3 x12_3).f0.f11] (ji53)) 2)) ((rd_T32 x5_3 x12_3).f0.f11)⟩ : S30)⟩ : S32)) := ⟨_,rfl⟩
                   replace H : (if x11_3.length < 1466015503701 then (arrearslaw8_LedgerTotals.l1 k3 l0 y185 (x11_3 ++ [(⟨(⟨putI (ji53) 0 (wrap64 (Int.tdiv (selI [(rd_T32 x5_3 x12_3).f0.f0,(rd_T32 x5_3 x12_3).f0.f1,(rd_T32 x5_3 x12_3).f0.f2,(rd_T32 x5_3 x12_3).f0.f3,(rd_T32 x5_3 x12_3).f0.f4,(rd_T32 x5_3 x12_3).f0.f5,(rd_T32 x5_3 x12_3).f0.f6,(rd_T32 x5_3 x12_3).f0.f7,(rd_T32 x5_3 x12_3).f0.f8,(rd_T32 x5_3 x12_3).f0.f9,(rd_T32 x5_3 x12_3).f0.f10,(rd_T32 x5_3 x12_3).f0.f11] (ji53)) 2)) ((rd_T32 x5_3 x12_3).f0.f0),putI (ji53) 1 (wrap64 (Int.tdiv (selI [(rd_T32 x5_3 x12_3).f0.f0,(rd_T32 x5_3 x12_3).f0.f1,(rd_T32 x5_3 x12_3).f0.f2,(rd_T32 x5_3 x12_3).f0.f3,(rd_T32 x5_3 x12_3).f0.f4,(rd_T32 x5_3 x12_3).f0.f5,(rd_T32 x5_3 x12_3).f0.f6,(rd_T32 x5_3 x12_3).f0.f7,(rd_T32 x5_3 x12_3).f0.f8,(rd_T32 x5_3 x12_3).f0.f9,(rd_T32 x5_3 x12_3).f0.f10,(rd_T32 x5_3 x12_3).f0.f11] (ji53)) 2)) ((rd_T32 x5_3 x12_3).f0.f1),putI (ji53) 2 (wrap64 (Int.tdiv (selI [(rd_T32 x5_3 x12_3).f0.f0,(rd_T32 x5_3 x12_3).f0.f1,(rd_T32 x5_3 x12_3).f0.f2,(rd_T32 x5_3 x12_3).f0.f3,(rd_T32 x5_3 x12_3).f0.f4,(rd_T32 x5_3 x12_3).f0.f5,(rd_T32 x5_3 x12_3).f0.f6,(rd_T32 x5_3 x12_3).f0.f7,(rd_T32 x5_3 x12_3).f0.f8,(rd_T32 x5_3 x12_3).f0.f9,(rd_T32 x5_3 x12_3).f0.f10,(rd_T32 x5_3 x12_3).f0.f11] (ji53)) 2)) ((rd_T32 x5_3 x12_3).f0.f2),putI (ji53) 3 (wrap64 (Int.tdiv (selI [(rd_T32 x5_3 x12_3).f0.f0,(rd_T32 x5_3 x12_3).f0.f1,(rd_T32 x5_3 x12_3).f0.f2,(rd_T32 x5_3 x12_3).f0.f3,(rd_T32 x5_3 x12_3).f0.f4,(rd_T32 x5_3 x12_3).f0.f5,(rd_T32 x5_3 x12_3).f0.f6,(rd_T32 x5_3 x12_3).f0.f7,(rd_T32 x5_3 x12_3).f0.f8,(rd_T32 x5_3 x12_3).f0.f9,(rd_T32 x5_3 x12_3).f0.f10,(rd_T32 x5_3 x12_3).f0.f11] (ji53)) 2)) ((rd_T32 x5_3 x12_3).f0.f3),putI (ji53) 4 (wrap64 (Int.tdiv (selI [(rd_T32 x5_3 x12_3).f0.f0,(rd_T32 x5_3 x12_3).f0.f1,(rd_T32 x5_3 x12_3).f0.f2,(rd_T32 x5_3 x12_3).f0.f3,(rd_T32 x5_3 x12_3).f0.f4,(rd_T32 x5_3 x12_3).f0.f5,(rd_T32 x5_3 x12_3).f0.f6,(rd_T32 x5_3 x12_3).f0.f7,(rd_T32 x5_3 x12_3).f0.f8,(rd_T32 x5_3 x12_3).f0.f9,(rd_T32 x5_3 x12_3).f0.f10,(rd_T32 x5_3 x12_3).f0.f11] (ji53)) 2)) ((rd_T32 x5_3 x12_3).f0.f4),putI (ji53) 5 (wrap64 (Int.tdiv (selI [(rd_T32 x5_3 x12_3).f0.f0,(rd_T32 x5_3 x12_3).f0.f1,(rd_T32 x5_3 x12_3).f0.f2,(rd_T32 x5_3 x12_3).f0.f3,(rd_T32 x5_3 x12_3).f0.f4,(rd_T32 x5_3 x12_3).f0.f5,(rd_T32 x5_3 x12_3).f0.f6,(rd_T32 x5_3 x12_3).f0.f7,(rd_T32 x5_3 x12_3).f0.f8,(rd_T32 x5_3 x12_3).f0.f9,(rd_T32 x5_3 x12_3).f0.f10,(rd_T32 x5_3 x12_3).f0.f11] (ji53)) 2)) ((rd_T32 x5_3 x12_3).f0.f5),putI (ji53) 6 (wrap64 (Int.tdiv (selI [(rd_T32 x5_3 x12_3).f0.f0,(rd_T32 x5_3 x12_3).f0.f1,(rd_T32 x5_3 x12_3).f0.f2,(rd_T32 x5_3 x12_3).f0.f3,(rd_T32 x5_3 x12_3).f0.f4,(rd_T32 x5_3 x12_3).f0.f5,(rd_T32 x5_3 x12_3).f0.f6,(rd_T32 x5_3 x12_3).f0.f7,(rd_T32 x5_3 x12_3).f0.f8,(rd_T32 x5_3 x12_3).f0.f9,(rd_T32 x5_3 x12_3).f0.f10,(rd_T32 x5_3 x12_3).f0.f11] (ji53)) 2)) ((rd_T32 x5_3 x12_3).f0.f6),putI (ji53) 7 (wrap64 (Int.tdiv (selI [(rd_T32 x5_3 x12_3).f0.f0,(rd_T32 x5_3 x12_3).f0.f1,(rd_T32 x5_3 x12_3).f0.f2,(rd_T32 x5_3 x12_3).f0.f3,(rd_T32 x5_3 x12_3).f0.f4,(rd_T32 x5_3 x12_3).f0.f5,(rd_T32 x5_3 x12_3).f0.f6,(rd_T32 x5_3 x12_3).f0.f7,(rd_T32 x5_3 x12_3).f0.f8,(rd_T32 x5_3 x12_3).f0.f9,(rd_T32 x5_3 x12_3).f0.f10,(rd_T32 x5_3 x12_3).f0.f11] (ji53)) 2)) ((rd_T32 x5_3 x12_3).f0.f7),putI (ji53) 8 (wrap64 (Int.tdiv (selI [(rd_T32 x5_3 x12_3).f0.f0,(rd_T32 x5_3 x12_3).f0.f1,(rd_T32 x5_3 x12_3).f0.f2,(rd_T32 x5_3 x12_3).f0.f3,(rd_T32 x5_3 x12_3).f0.f4,(rd_T32 x5_3 x12_3).f0.f5,(rd_T32 x5_3 x12_3).f0.f6,(rd_T32 x5_3 x12_3).f0.f7,(rd_T32 x5_3 x12_3).f0.f8,(rd_T32 x5_3 x12_3).f0.f9,(rd_T32 x5_3 x12_3).f0.f10,(rd_T32 x5_3 x12_3).f0.f11] (ji53)) 2)) ((rd_T32 x5_3 x12_3).f0.f8),putI (ji53) 9 (wrap64 (Int.tdiv (selI [(rd_T32 x5_3 x12_3).f0.f0,(rd_T32 x5_3 x12_3).f0.f1,(rd_T32 x5_3 x12_3).f0.f2,(rd_T32 x5_3 x12_3).f0.f3,(rd_T32 x5_3 x12_3).f0.f4,(rd_T32 x5_3 x12_3).f0.f5,(rd_T32 x5_3 x12_3).f0.f6,(rd_T32 x5_3 x12_3).f0.f7,(rd_T32 x5_3 x12_3).f0.f8,(rd_T32 x5_3 x12_3).f0.f9,(rd_T32 x5_3 x12_3).f0.f10,(rd_T32 x5_3 x12_3).f0.f11] (ji53)) 2)) ((rd_T32 x5_3 x12_3).f0.f9),putI (ji53) 10 (wrap64 (Int.tdiv (selI [(rd_T32 x5_3 x12_3).f0.f0,(rd_T32 x5_3 x12_3).f0.f1,(rd_T32 x5_3 x12_3).f0.f2,(rd_T32 x5_3 x12_3).f0.f3,(rd_T32 x5_3 x12_3).f0.f4,(rd_T32 x5_3 x12_3).f0.f5,(rd_T32 x5_3 x12_3).f0.f6,(rd_T32 x5_3 x12_3).f0.f7,(rd_T32 x5_3 x12_3).f0.f8,(rd_T32 x5_3 x12_3).f0.f9,(rd_T32 x5_3 x12_3).f0.f10,(rd_T32 x5_3 x12_3).f0.f11] (ji53)) 2)) ((rd_T32 x5_3 x12_3).f0.f10),putI (ji53) 11 (wrap64 (Int.tdiv (selI [(rd_T32 x5_3 x12_3).f0.f0,(rd_T32 x5_3 x12_3).f0.f1,(rd_T32 x5_3 x12_3).f0.f2,(rd_T32 x5_3 x12_3).f0.f3,(rd_T32 x5_3 x12_3).f0.f4,(rd_T32 x5_3 x12_3).f0.f5,(rd_T32 x5_3 x12_3).f0.f6,(rd_T32 x5_3 x12_3).f0.f7,(rd_T32 x5_3 x12_3).f0.f8,(rd_T32 x5_3 x12_3).f0.f9,(rd_T32 x5_3 x12_3).f0.f10,(rd_T32 x5_3 x12_3).f0.f11] (ji53)) 2)) ((rd_T32 x5_3 x12_3).f0.f11)⟩ : S30)⟩ : S32)]) (wrap64 (x12_3 + 1))) else (none)) = some r := by first | (rw [hy185];with_reducible exact H) | (have H2_ := (Option.bind_some _ _).symm.trans H;rw [hy185];with_reducible exact H2_) | (have H2_ := (Option.bind_some _ _).symm.trans H;with_reducible exact H2_) | with_reducible exact H | (rw [hy185];exact H) | exact H
                   have Ny185 := Aside0.mk hy185
                   clear hy185
                   by_cases c58 : x11_3.length < 1466015503701
                   ·
                    rw [if_pos c58] at H
                    have LMc58 := Aside0.mk c58
                    clear c58
                    obtain ⟨y187,hy187⟩ : ∃ y_ : List (S32),y_ = (x11_3 ++ [(⟨(⟨putI (ji53) 0 (wrap64 (Int.tdiv (selI [(rd_T32 x5_3 x12_3).f0.f0,(rd_T32 x5_3 x12_3).f0.f1,(rd_T32 x5_3 x12_3).f0.f2,(rd_T32 x5_3 x12_3).f0.f3,(rd_T32 x5_3 x12_3).f0.f4,(rd_T32 x5_3 x12_3).f0.f5,(rd_T32 x5_3 x12_3).f0.f6,(rd_T32 x5_3 x12_3).f0.f7,(rd_T32 x5_3 x12_3).f0.f8,(rd_T32 x5_3 x12_3).f0.f9,(rd_T32 x5_3 x12_3).f0.f10,(rd_T32 x5_3 x12_3).f0.f11] (ji53)) 2)) ((rd_T32 x5_3 x12_3).f0.f0),putI (ji53) 1 (wrap64 (Int.tdiv (selI [(rd_T32 x5_3 x12_3).f0.f0,(rd_T32 x5_3 x12_3).f0.f1,(rd_T32 x5_3 x12_3).f0.f2,(rd_T32 x5_3 x12_3).f0.f3,(rd_T32 x5_3 x12_3).f0.f4,(rd_T32 x5_3 x12_3).f0.f5,(rd_T32 x5_3 x12_3).f0.f6,(rd_T32 x5_3 x12_3).f0.f7,(rd_T32 x5_3 x12_3).f0.f8,(rd_T32 x5_3 x12_3).f0.f9,(rd_T32 x5_3 x12_3).f0.f10,(rd_T32 x5_3 x12_3).f0.f11] (ji53)) 2)) ((rd_T32 x5_3 x12_3).f0.f1),putI (ji53) 2 (wrap64 (Int.tdiv (selI [(rd_T32 x5_3 x12_3).f0.f0,(rd_T32 x5_3 x12_3).f0.f1,(rd_T32 x5_3 x12_3).f0.f2,(rd_T32 x5_3 x12_3).f0.f3,(rd_T32 x5_3 x12_3).f0.f4,(rd_T32 x5_3 x12_3).f0.f5,(rd_T32 x5_3 x12_3).f0.f6,(rd_T32 x5_3 x12_3).f0.f7,(rd_T32 x5_3 x12_3).f0.f8,(rd_T32 x5_3 x12_3).f0.f9,(rd_T32 x5_3 x12_3).f0.f10,(rd_T32 x5_3 x12_3).f0.f11] (ji53)) 2)) ((rd_T32 x5_3 x12_3).f0.f2),putI (ji53) 3 (wrap64 (Int.tdiv (selI [(rd_T32 x5_3 x12_3).f0.f0,(rd_T32 x5_3 x12_3).f0.f1,(rd_T32 x5_3 x12_3).f0.f2,(rd_T32 x5_3 x12_3).f0.f3,(rd_T32 x5_3 x12_3).f0.f4,(rd_T32 x5_3 x12_3).f0.f5,(rd_T32 x5_3 x12_3).f0.f6,(rd_T32 x5_3 x12_3).f0.f7,(rd_T32 x5_3 x12_3).f0.f8,(rd_T32 x5_3 x12_3).f0.f9,(rd_T32 x5_3 x12_3).f0.f10,(rd_T32 x5_3 x12_3).f0.f11] (ji53)) 2)) ((rd_T32 x5_3 x12_3).f0.f3),putI (ji53) 4 (wrap64 (Int.tdiv (selI [(rd_T32 x5_3 x12_3).f0.f0,(rd_T32 x5_3 x12_3).f0.f1,(rd_T32 x5_3 x12_3).f0.f2,(rd_T32 x5_3 x12_3).f0.f3,(rd_T32 x5_3 x12_3).f0.f4,(rd_T32 x5_3 x12_3).f0.f5,(rd_T32 x5_3 x12_3).f0.f6,(rd_T32 x5_3 x12_3).f0.f7,(rd_T32 x5_3 x12_3).f0.f8,(rd_T32 x5_3 x12_3).f0.f9,(rd_T32 x5_3 x12_3).f0.f10,(rd_T32 x5_3 x12_3).f0.f11] (ji53)) 2)) ((rd_T32 x5_3 x12_3).f0.f4),putI (ji53) 5 (wrap64 (Int.tdiv (selI [(rd_T32 x5_3 x12_3).f0.f0,(rd_T32 x5_3 x12_3).f0.f1,(rd_T32 x5_3 x12_3).f0.f2,(rd_T32 x5_3 x12_3).f0.f3,(rd_T32 x5_3 x12_3).f0.f4,(rd_T32 x5_3 x12_3).f0.f5,(rd_T32 x5_3 x12_3).f0.f6,(rd_T32 x5_3 x12_3).f0.f7,(rd_T32 x5_3 x12_3).f0.f8,(rd_T32 x5_3 x12_3).f0.f9,(rd_T32 x5_3 x12_3).f0.f10,(rd_T32 x5_3 x12_3).f0.f11] (ji53)) 2)) ((rd_T32 x5_3 x12_3).f0.f5),putI (ji53) 6 (wrap64 (Int.tdiv (selI [(rd_T32 x5_3 x12_3).f0.f0,(rd_T32 x5_3 x12_3).f0.f1,(rd_T32 x5_3 x12_3).f0.f2,(rd_T32 x5_3 x12_3).f0.f3,(rd_T32 x5_3 x12_3).f0.f4,(rd_T32 x5_3 x12_3).f0.f5,(rd_T32 x5_3 x12_3).f0.f6,(rd_T32 x5_3 x12_3).f0.f7,(rd_T32 x5_3 x12_3).f0.f8,(rd_T32 x5_3 x12_3).f0.f9,(rd_T32 x5_3 x12_3).f0.f10,(rd_T32 x5_3 x12_3).f0.f11] (ji53)) 2)) ((rd_T32 x5_3 x12_3).f0.f6),putI (ji53) 7 (wrap64 (Int.tdiv (selI [(rd_T32 x5_3 x12_3).f0.f0,(rd_T32 x5_3 x12_3).f0.f1,(rd_T32 x5_3 x12_3).f0.f2,(rd_T32 x5_3 x12_3).f0.f3,(rd_T32 x5_3 x12_3).f0.f4,(rd_T32 x5_3 x12_3).f0.f5,(rd_T32 x5_3 x12_3).f0.f6,(rd_T32 x5_3 x12_3).f0.f7,(rd_T32 x5_3 x12_3).f0.f8,(rd_T32 x5_3 x12_3).f0.f9,(rd_T32 x5_3 x12_3).f0.f10,(rd_T32 x5_3 x12_3).f0.f11] (ji53)) 2)) ((rd_T32 x5_3 x12_3).f0.f7),putI (ji53) 8 (wrap64 (Int.tdiv (selI [(rd_T32 x5_3 x12_3).f0.f0,(rd_T32 x5_3 x12_3).f0.f1,(rd_T32 x5_3 x12_3).f0.f2,(rd_T32 x5_3 x12_3).f0.f3,(rd_T32 x5_3 x12_3).f0.f4,(rd_T32 x5_3 x12_3).f0.f5,(rd_T32 x5_3 x12_3).f0.f6,(rd_T32 x5_3 x12_3).f0.f7,(rd_T32 x5_3 x12_3).f0.f8,(rd_T32 x5_3 x12_3).f0.f9,(rd_T32 x5_3 x12_3).f0.f10,(rd_T32 x5_3 x12_3).f0.f11] (ji53)) 2)) ((rd_T32 x5_3 x12_3).f0.f8),putI (ji53) 9 (wrap64 (Int.tdiv (selI [(rd_T32 x5_3 x12_3).f0.f0,(rd_T32 x5_3 x12_3).f0.f1,(rd_T32 x5_3 x12_3).f0.f2,(rd_T32 x5_3 x12_3).f0.f3,(rd_T32 x5_3 x12_3).f0.f4,(rd_T32 x5_3 x12_3).f0.f5,(rd_T32 x5_3 x12_3).f0.f6,(rd_T32 x5_3 x12_3).f0.f7,(rd_T32 x5_3 x12_3).f0.f8,(rd_T32 x5_3 x12_3).f0.f9,(rd_T32 x5_3 x12_3).f0.f10,(rd_T32 x5_3 x12_3).f0.f11] (ji53)) 2)) ((rd_T32 x5_3 x12_3).f0.f9),putI (ji53) 10 (wrap64 (Int.tdiv (selI [(rd_T32 x5_3 x12_3).f0.f0,(rd_T32 x5_3 x12_3).f0.f1,(rd_T32 x5_3 x12_3).f0.f2,(rd_T32 x5_3 x12_3).f0.f3,(rd_T32 x5_3 x12_3).f0.f4,(rd_T32 x5_3 x12_3).f0.f5,(rd_T32 x5_3 x12_3).f0.f6,(rd_T32 x5_3 x12_3).f0.f7,(rd_T32 x5_3 x12_3).f0.f8,(rd_T32 x5_3 x12_3).f0.f9,(rd_T32 x5_3 x12_3).f0.f10,(rd_T32 x5_3 x12_3).f0.f11] (ji53)) 2)) ((rd_T32 x5_3 x12_3).f0.f10),putI (ji53) 11 (wrap64 (Int.tdiv (selI [(rd_T32 x5_3 x12_3).f0.f0,(rd_T32 x5_3 x12_3).f0.f1,(rd_T32 x5_3 x12_3).f0.f2,(rd_T32 x5_3 x12_3).f0.f3,(rd_T32 x5_3 x12_3).f0.f4,(rd_T32 x5_3 x12_3).f0.f5,(rd_T32 x5_3 x12_3).f0.f6,(rd_T32 x5_3 x12_3).f0.f7,(rd_T32 x5_3 x12_3).f0.f8,(rd_T32 x5_3 x12_3).f0.f9,(rd_T32 x5_3 x12_3).f0.f10,(rd_T32 x5_3 x12_3).f0.f11] (ji53)) 2)) ((rd_T32 x5_3 x12_3).f0.f11)⟩ : S30)⟩ : S32)]) := ⟨_,rfl⟩
                    replace H : (arrearslaw8_LedgerTotals.l1 k3 l0 y185 y187 (wrap64 (x12_3 + 1))) = some r := by first | (rw [hy187];with_reducible exact H) | (have H2_ := (Option.bind_some _ _).symm.trans H;rw [hy187];with_reducible exact H2_) | (have H2_ := (Option.bind_some _ _).symm.trans H;with_reducible exact H2_) | with_reducible exact H | (rw [hy187];exact H) | exact H
                    have Ny187 := Aside0.mk hy187
                    clear hy187
                    have H' := Aside0.mk H
                    clear H
                    try go_wp2
                    have n0_ := Aside0.mk (Kd.R_drew HO_5.out)
                    have n1_ := Aside0.mk (Kd.R_drew HO_11.out)
                    have n2_ := Aside0.mk (blk_drew BK137.out)
                    have n3_ := Aside0.mk (blk_drew BK158.out)
                    have n4_ := Aside0.mk (blk_drew BK172.out)
                    have n5_ := Aside0.mk (below_drew1 HB.out)
                    clear HO_5
                    clear HO_11
                    clear BK137
                    clear BK158
                    clear BK172
                    clear HB
                    have HO_5 := n0_
                    have HO_11 := n1_
                    have BK137 := n2_
                    have BK158 := n3_
                    have BK172 := n4_
                    have HB := n5_
                    clear n0_ n1_ n2_ n3_ n4_ n5_
                    have p182 : 0 ≤ (x12_3 : Int) := of_decide_eq_true (by first | (with_reducible assumption) | assumption)
                    have q182 : x12_3 < (x5_3.length : Int) := of_decide_eq_true (by first | (with_reducible assumption) | assumption)
                    obtain ⟨ad182,e182,hx182_0,hx182_1,hx182_2,hx182_3,hx182_4,hx182_5,hx182_6,hx182_7,hx182_8,hx182_9,hx182_10,hx182_11⟩ := at_T32 (Kd.R_reads' HO_5.out).2.2 x12_3 p182 q182
                    cases e182
                    replace p182 := eq_true p182
                    replace q182 := eq_true q182
                    have za60 := of_eq_true q182
                    have zb60 := of_eq_true p182
                    obtain ⟨go60,co60,eo60,gb60,gl60,cl60,HG60⟩ := Kd.R_form HO_5.out (by omega)
                    (first | cases eo60 | (injection eo60 with ea_ en_ ec_;(first | subst ea_ | (injection ea_ with ea_;subst ea_));subst ec_;clear en_))
                    have GB60 := Aside0.mk gb60
                    have GG60 := Aside0.mk HG60
                    clear gb60 gl60 HG60
                    (first | simp only [add_plain] at hx182_0 | skip)
                    (first | simp only [add_plain] at hx182_1 | skip)
                    (first | simp only [add_plain] at hx182_2 | skip)
                    (first | simp only [add_plain] at hx182_3 | skip)
                    (first | simp only [add_plain] at hx182_4 | skip)
                    (first | simp only [add_plain] at hx182_5 | skip)
                    (first | simp only [add_plain] at hx182_6 | skip)
                    (first | simp only [add_plain] at hx182_7 | skip)
                    (first | simp only [add_plain] at hx182_8 | skip)
                    (first | simp only [add_plain] at hx182_9 | skip)
                    (first | simp only [add_plain] at hx182_10 | skip)
                    (first | simp only [add_plain] at hx182_11 | skip)
                    clear za60 zb60
                    have p183 : 0 ≤ ((ji53) : Int) := of_decide_eq_true (by first | (with_reducible assumption) | assumption)
                    have q183 : ((ji53) : Int) < 12 := of_decide_eq_true (by first | (with_reducible assumption) | assumption)
                    have hsv183 := sel_elem12 (A:=⟨go60,(x12_3 : Int).toNat * 12,none⟩) .i64 hx182_0 hx182_1 hx182_2 hx182_3 hx182_4 hx182_5 hx182_6 hx182_7 hx182_8 hx182_9 hx182_10 hx182_11 (ji53) p183 q183
                    rw [add_at] at hsv183
                    have t183 := eq_true (show ((ji53) : Int).toNat < 12 by omega)
                    replace p183 := eq_true p183
                    replace q183 := eq_true q183
                    have p56 : 0 ≤ (x12_3 : Int) := of_decide_eq_true (by first | (with_reducible assumption) | assumption)
                    have q56 : (x12_3 : Int) < ((x5_3.length : Int) : Int) := of_decide_eq_true (by first | (with_reducible assumption) | assumption)
                    obtain ⟨ce56,hcl56,hM56,hcc56,hfr56⟩ := Kd.R_elem HO_5.out z32 (x12_3 : Int) p56 q56
                    obtain rfl := k32_openM hM56
                    have hx56_0 : World.cell? _ ⟨go60,(x12_3 : Int).toNat * 12,none⟩ = some (.int .i64 ((rd_T32 x5_3 x12_3).f0.f0)) := hcc56 0 _ rfl
                    have hx56_1 : World.cell? _ ⟨go60,(x12_3 : Int).toNat * 12 + 1,none⟩ = some (.int .i64 ((rd_T32 x5_3 x12_3).f0.f1)) := hcc56 1 _ rfl
                    have hx56_2 : World.cell? _ ⟨go60,(x12_3 : Int).toNat * 12 + 2,none⟩ = some (.int .i64 ((rd_T32 x5_3 x12_3).f0.f2)) := hcc56 2 _ rfl
                    have hx56_3 : World.cell? _ ⟨go60,(x12_3 : Int).toNat * 12 + 3,none⟩ = some (.int .i64 ((rd_T32 x5_3 x12_3).f0.f3)) := hcc56 3 _ rfl
                    have hx56_4 : World.cell? _ ⟨go60,(x12_3 : Int).toNat * 12 + 4,none⟩ = some (.int .i64 ((rd_T32 x5_3 x12_3).f0.f4)) := hcc56 4 _ rfl
                    have hx56_5 : World.cell? _ ⟨go60,(x12_3 : Int).toNat * 12 + 5,none⟩ = some (.int .i64 ((rd_T32 x5_3 x12_3).f0.f5)) := hcc56 5 _ rfl
                    have hx56_6 : World.cell? _ ⟨go60,(x12_3 : Int).toNat * 12 + 6,none⟩ = some (.int .i64 ((rd_T32 x5_3 x12_3).f0.f6)) := hcc56 6 _ rfl
                    have hx56_7 : World.cell? _ ⟨go60,(x12_3 : Int).toNat * 12 + 7,none⟩ = some (.int .i64 ((rd_T32 x5_3 x12_3).f0.f7)) := hcc56 7 _ rfl
                    have hx56_8 : World.cell? _ ⟨go60,(x12_3 : Int).toNat * 12 + 8,none⟩ = some (.int .i64 ((rd_T32 x5_3 x12_3).f0.f8)) := hcc56 8 _ rfl
                    have hx56_9 : World.cell? _ ⟨go60,(x12_3 : Int).toNat * 12 + 9,none⟩ = some (.int .i64 ((rd_T32 x5_3 x12_3).f0.f9)) := hcc56 9 _ rfl
                    have hx56_10 : World.cell? _ ⟨go60,(x12_3 : Int).toNat * 12 + 10,none⟩ = some (.int .i64 ((rd_T32 x5_3 x12_3).f0.f10)) := hcc56 10 _ rfl
                    have hx56_11 : World.cell? _ ⟨go60,(x12_3 : Int).toNat * 12 + 11,none⟩ = some (.int .i64 ((rd_T32 x5_3 x12_3).f0.f11)) := hcc56 11 _ rfl
                    have hf56_0 : World.frozen? _ ⟨go60,(x12_3 : Int).toNat * 12,none⟩ = false := hfr56 0
                    have hf56_1 : World.frozen? _ ⟨go60,(x12_3 : Int).toNat * 12 + 1,none⟩ = false := hfr56 1
                    have hf56_2 : World.frozen? _ ⟨go60,(x12_3 : Int).toNat * 12 + 2,none⟩ = false := hfr56 2
                    have hf56_3 : World.frozen? _ ⟨go60,(x12_3 : Int).toNat * 12 + 3,none⟩ = false := hfr56 3
                    have hf56_4 : World.frozen? _ ⟨go60,(x12_3 : Int).toNat * 12 + 4,none⟩ = false := hfr56 4
                    have hf56_5 : World.frozen? _ ⟨go60,(x12_3 : Int).toNat * 12 + 5,none⟩ = false := hfr56 5
                    have hf56_6 : World.frozen? _ ⟨go60,(x12_3 : Int).toNat * 12 + 6,none⟩ = false := hfr56 6
                    have hf56_7 : World.frozen? _ ⟨go60,(x12_3 : Int).toNat * 12 + 7,none⟩ = false := hfr56 7
                    have hf56_8 : World.frozen? _ ⟨go60,(x12_3 : Int).toNat * 12 + 8,none⟩ = false := hfr56 8
                    have hf56_9 : World.frozen? _ ⟨go60,(x12_3 : Int).toNat * 12 + 9,none⟩ = false := hfr56 9
                    have hf56_10 : World.frozen? _ ⟨go60,(x12_3 : Int).toNat * 12 + 10,none⟩ = false := hfr56 10
                    have hf56_11 : World.frozen? _ ⟨go60,(x12_3 : Int).toNat * 12 + 11,none⟩ = false := hfr56 11
                    clear hcl56 hcc56 hfr56 hM56
                    replace p56 := eq_true p56
                    replace q56 := eq_true q56
                    have p185 : 0 ≤ ((ji53) : Int) := of_decide_eq_true (by first | (with_reducible assumption) | assumption)
                    have q185 : ((ji53) : Int) < 12 := of_decide_eq_true (by first | (with_reducible assumption) | assumption)
                    have t185 := eq_true (show ((ji53) : Int).toNat < 12 by omega)
                    replace p185 := eq_true p185
                    replace q185 := eq_true q185
                    obtain ⟨ce61,hcl61,hM61,hcc61,hfr61⟩ := Kd.R_elem HO_5.out z32 (x12_3 : Int) (of_decide_eq_true (by first | (with_reducible assumption) | assumption)) (by have h_ : (x12_3 : Int) < ((x5_3.length : Int) : Int) := of_decide_eq_true (by first | (with_reducible assumption) | assumption);first | exact h_ | (have e_ := (Kd.R_reads' HO_5.out).1;omega) | simpa using h_)
                    obtain rfl := k32_openM (show k32.M _ _ _ (rd_T32 x5_3 x12_3) ce61 from hM61)
                    have HP61 := (Kd.R_seg HO_5.out (x12_3 : Int) (of_decide_eq_true (by first | (with_reducible assumption) | assumption)) (by have h_ : (x12_3 : Int) < ((x5_3.length : Int) : Int) := of_decide_eq_true (by first | (with_reducible assumption) | assumption);first | exact h_ | (have e_ := (Kd.R_reads' HO_5.out).1;omega) | simpa using h_) (seg:=[.int .i64 (wrap64 (Int.tdiv (selI [(rd_T32 x5_3 x12_3).f0.f0,(rd_T32 x5_3 x12_3).f0.f1,(rd_T32 x5_3 x12_3).f0.f2,(rd_T32 x5_3 x12_3).f0.f3,(rd_T32 x5_3 x12_3).f0.f4,(rd_T32 x5_3 x12_3).f0.f5,(rd_T32 x5_3 x12_3).f0.f6,(rd_T32 x5_3 x12_3).f0.f7,(rd_T32 x5_3 x12_3).f0.f8,(rd_T32 x5_3 x12_3).f0.f9,(rd_T32 x5_3 x12_3).f0.f10,(rd_T32 x5_3 x12_3).f0.f11] (ji53)) 2))]) (j:=((ji53) : Int).toNat) hcl61 hcc61 (show ((ji53) : Int).toNat + 1 ≤ 12 from (by have hh := of_eq_true p185;have hh2 := of_eq_true q185;omega)) (x' := (⟨(⟨putI (ji53) 0 (wrap64 (Int.tdiv (selI [(rd_T32 x5_3 x12_3).f0.f0,(rd_T32 x5_3 x12_3).f0.f1,(rd_T32 x5_3 x12_3).f0.f2,(rd_T32 x5_3 x12_3).f0.f3,(rd_T32 x5_3 x12_3).f0.f4,(rd_T32 x5_3 x12_3).f0.f5,(rd_T32 x5_3 x12_3).f0.f6,(rd_T32 x5_3 x12_3).f0.f7,(rd_T32 x5_3 x12_3).f0.f8,(rd_T32 x5_3 x12_3).f0.f9,(rd_T32 x5_3 x12_3).f0.f10,(rd_T32 x5_3 x12_3).f0.f11] (ji53)) 2)) ((rd_T32 x5_3 x12_3).f0.f0),putI (ji53) 1 (wrap64 (Int.tdiv (selI [(rd_T32 x5_3 x12_3).f0.f0,(rd_T32 x5_3 x12_3).f0.f1,(rd_T32 x5_3 x12_3).f0.f2,(rd_T32 x5_3 x12_3).f0.f3,(rd_T32 x5_3 x12_3).f0.f4,(rd_T32 x5_3 x12_3).f0.f5,(rd_T32 x5_3 x12_3).f0.f6,(rd_T32 x5_3 x12_3).f0.f7,(rd_T32 x5_3 x12_3).f0.f8,(rd_T32 x5_3 x12_3).f0.f9,(rd_T32 x5_3 x12_3).f0.f10,(rd_T32 x5_3 x12_3).f0.f11] (ji53)) 2)) ((rd_T32 x5_3 x12_3).f0.f1),putI (ji53) 2 (wrap64 (Int.tdiv (selI [(rd_T32 x5_3 x12_3).f0.f0,(rd_T32 x5_3 x12_3).f0.f1,(rd_T32 x5_3 x12_3).f0.f2,(rd_T32 x5_3 x12_3).f0.f3,(rd_T32 x5_3 x12_3).f0.f4,(rd_T32 x5_3 x12_3).f0.f5,(rd_T32 x5_3 x12_3).f0.f6,(rd_T32 x5_3 x12_3).f0.f7,(rd_T32 x5_3 x12_3).f0.f8,(rd_T32 x5_3 x12_3).f0.f9,(rd_T32 x5_3 x12_3).f0.f10,(rd_T32 x5_3 x12_3).f0.f11] (ji53)) 2)) ((rd_T32 x5_3 x12_3).f0.f2),putI (ji53) 3 (wrap64 (Int.tdiv (selI [(rd_T32 x5_3 x12_3).f0.f0,(rd_T32 x5_3 x12_3).f0.f1,(rd_T32 x5_3 x12_3).f0.f2,(rd_T32 x5_3 x12_3).f0.f3,(rd_T32 x5_3 x12_3).f0.f4,(rd_T32 x5_3 x12_3).f0.f5,(rd_T32 x5_3 x12_3).f0.f6,(rd_T32 x5_3 x12_3).f0.f7,(rd_T32 x5_3 x12_3).f0.f8,(rd_T32 x5_3 x12_3).f0.f9,(rd_T32 x5_3 x12_3).f0.f10,(rd_T32 x5_3 x12_3).f0.f11] (ji53)) 2)) ((rd_T32 x5_3 x12_3).f0.f3),putI (ji53) 4 (wrap64 (Int.tdiv (selI [(rd_T32 x5_3 x12_3).f0.f0,(rd_T32 x5_3 x12_3).f0.f1,(rd_T32 x5_3 x12_3).f0.f2,(rd_T32 x5_3 x12_3).f0.f3,(rd_T32 x5_3 x12_3).f0.f4,(rd_T32 x5_3 x12_3).f0.f5,(rd_T32 x5_3 x12_3).f0.f6,(rd_T32 x5_3 x12_3).f0.f7,(rd_T32 x5_3 x12_3).f0.f8,(rd_T32 x5_3 x12_3).f0.f9,(rd_T32 x5_3 x12_3).f0.f10,(rd_T32 x5_3 x12_3).f0.f11] (ji53)) 2)) ((rd_T32 x5_3 x12_3).f0.f4),putI (ji53) 5 (wrap64 (Int.tdiv (selI [(rd_T32 x5_3 x12_3).f0.f0,(rd_T32 x5_3 x12_3).f0.f1,(rd_T32 x5_3 x12_3).f0.f2,(rd_T32 x5_3 x12_3).f0.f3,(rd_T32 x5_3 x12_3).f0.f4,(rd_T32 x5_3 x12_3).f0.f5,(rd_T32 x5_3 x12_3).f0.f6,(rd_T32 x5_3 x12_3).f0.f7,(rd_T32 x5_3 x12_3).f0.f8,(rd_T32 x5_3 x12_3).f0.f9,(rd_T32 x5_3 x12_3).f0.f10,(rd_T32 x5_3 x12_3).f0.f11] (ji53)) 2)) ((rd_T32 x5_3 x12_3).f0.f5),putI (ji53) 6 (wrap64 (Int.tdiv (selI [(rd_T32 x5_3 x12_3).f0.f0,(rd_T32 x5_3 x12_3).f0.f1,(rd_T32 x5_3 x12_3).f0.f2,(rd_T32 x5_3 x12_3).f0.f3,(rd_T32 x5_3 x12_3).f0.f4,(rd_T32 x5_3 x12_3).f0.f5,(rd_T32 x5_3 x12_3).f0.f6,(rd_T32 x5_3 x12_3).f0.f7,(rd_T32 x5_3 x12_3).f0.f8,(rd_T32 x5_3 x12_3).f0.f9,(rd_T32 x5_3 x12_3).f0.f10,(rd_T32 x5_3 x12_3).f0.f11] (ji53)) 2)) ((rd_T32 x5_3 x12_3).f0.f6),putI (ji53) 7 (wrap64 (Int.tdiv (selI [(rd_T32 x5_3 x12_3).f0.f0,(rd_T32 x5_3 x12_3).f0.f1,(rd_T32 x5_3 x12_3).f0.f2,(rd_T32 x5_3 x12_3).f0.f3,(rd_T32 x5_3 x12_3).f0.f4,(rd_T32 x5_3 x12_3).f0.f5,(rd_T32 x5_3 x12_3).f0.f6,(rd_T32 x5_3 x12_3).f0.f7,(rd_T32 x5_3 x12_3).f0.f8,(rd_T32 x5_3 x12_3).f0.f9,(rd_T32 x5_3 x12_3).f0.f10,(rd_T32 x5_3 x12_3).f0.f11] (ji53)) 2)) ((rd_T32 x5_3 x12_3).f0.f7),putI (ji53) 8 (wrap64 (Int.tdiv (selI [(rd_T32 x5_3 x12_3).f0.f0,(rd_T32 x5_3 x12_3).f0.f1,(rd_T32 x5_3 x12_3).f0.f2,(rd_T32 x5_3 x12_3).f0.f3,(rd_T32 x5_3 x12_3).f0.f4,(rd_T32 x5_3 x12_3).f0.f5,(rd_T32 x5_3 x12_3).f0.f6,(rd_T32 x5_3 x12_3).f0.f7,(rd_T32 x5_3 x12_3).f0.f8,(rd_T32 x5_3 x12_3).f0.f9,(rd_T32 x5_3 x12_3).f0.f10,(rd_T32 x5_3 x12_3).f0.f11] (ji53)) 2)) ((rd_T32 x5_3 x12_3).f0.f8),putI (ji53) 9 (wrap64 (Int.tdiv (selI [(rd_T32 x5_3 x12_3).f0.f0,(rd_T32 x5_3 x12_3).f0.f1,(rd_T32 x5_3 x12_3).f0.f2,(rd_T32 x5_3 x12_3).f0.f3,(rd_T32 x5_3 x12_3).f0.f4,(rd_T32 x5_3 x12_3).f0.f5,(rd_T32 x5_3 x12_3).f0.f6,(rd_T32 x5_3 x12_3).f0.f7,(rd_T32 x5_3 x12_3).f0.f8,(rd_T32 x5_3 x12_3).f0.f9,(rd_T32 x5_3 x12_3).f0.f10,(rd_T32 x5_3 x12_3).f0.f11] (ji53)) 2)) ((rd_T32 x5_3 x12_3).f0.f9),putI (ji53) 10 (wrap64 (Int.tdiv (selI [(rd_T32 x5_3 x12_3).f0.f0,(rd_T32 x5_3 x12_3).f0.f1,(rd_T32 x5_3 x12_3).f0.f2,(rd_T32 x5_3 x12_3).f0.f3,(rd_T32 x5_3 x12_3).f0.f4,(rd_T32 x5_3 x12_3).f0.f5,(rd_T32 x5_3 x12_3).f0.f6,(rd_T32 x5_3 x12_3).f0.f7,(rd_T32 x5_3 x12_3).f0.f8,(rd_T32 x5_3 x12_3).f0.f9,(rd_T32 x5_3 x12_3).f0.f10,(rd_T32 x5_3 x12_3).f0.f11] (ji53)) 2)) ((rd_T32 x5_3 x12_3).f0.f10),putI (ji53) 11 (wrap64 (Int.tdiv (selI [(rd_T32 x5_3 x12_3).f0.f0,(rd_T32 x5_3 x12_3).f0.f1,(rd_T32 x5_3 x12_3).f0.f2,(rd_T32 x5_3 x12_3).f0.f3,(rd_T32 x5_3 x12_3).f0.f4,(rd_T32 x5_3 x12_3).f0.f5,(rd_T32 x5_3 x12_3).f0.f6,(rd_T32 x5_3 x12_3).f0.f7,(rd_T32 x5_3 x12_3).f0.f8,(rd_T32 x5_3 x12_3).f0.f9,(rd_T32 x5_3 x12_3).f0.f10,(rd_T32 x5_3 x12_3).f0.f11] (ji53)) 2)) ((rd_T32 x5_3 x12_3).f0.f11)⟩ : S30)⟩ : S32)) (by rw [seg_arr12 ((rd_T32 x5_3 x12_3).f0.f0) ((rd_T32 x5_3 x12_3).f0.f1) ((rd_T32 x5_3 x12_3).f0.f2) ((rd_T32 x5_3 x12_3).f0.f3) ((rd_T32 x5_3 x12_3).f0.f4) ((rd_T32 x5_3 x12_3).f0.f5) ((rd_T32 x5_3 x12_3).f0.f6) ((rd_T32 x5_3 x12_3).f0.f7) ((rd_T32 x5_3 x12_3).f0.f8) ((rd_T32 x5_3 x12_3).f0.f9) ((rd_T32 x5_3 x12_3).f0.f10) ((rd_T32 x5_3 x12_3).f0.f11) (ji53) (wrap64 (Int.tdiv (selI [(rd_T32 x5_3 x12_3).f0.f0,(rd_T32 x5_3 x12_3).f0.f1,(rd_T32 x5_3 x12_3).f0.f2,(rd_T32 x5_3 x12_3).f0.f3,(rd_T32 x5_3 x12_3).f0.f4,(rd_T32 x5_3 x12_3).f0.f5,(rd_T32 x5_3 x12_3).f0.f6,(rd_T32 x5_3 x12_3).f0.f7,(rd_T32 x5_3 x12_3).f0.f8,(rd_T32 x5_3 x12_3).f0.f9,(rd_T32 x5_3 x12_3).f0.f10,(rd_T32 x5_3 x12_3).f0.f11] (ji53)) 2)) (of_eq_true p185) (of_eq_true q185)];exact (k32_mkM _ _ _ (⟨(⟨putI (ji53) 0 (wrap64 (Int.tdiv (selI [(rd_T32 x5_3 x12_3).f0.f0,(rd_T32 x5_3 x12_3).f0.f1,(rd_T32 x5_3 x12_3).f0.f2,(rd_T32 x5_3 x12_3).f0.f3,(rd_T32 x5_3 x12_3).f0.f4,(rd_T32 x5_3 x12_3).f0.f5,(rd_T32 x5_3 x12_3).f0.f6,(rd_T32 x5_3 x12_3).f0.f7,(rd_T32 x5_3 x12_3).f0.f8,(rd_T32 x5_3 x12_3).f0.f9,(rd_T32 x5_3 x12_3).f0.f10,(rd_T32 x5_3 x12_3).f0.f11] (ji53)) 2)) ((rd_T32 x5_3 x12_3).f0.f0),putI (ji53) 1 (wrap64 (Int.tdiv (selI [(rd_T32 x5_3 x12_3).f0.f0,(rd_T32 x5_3 x12_3).f0.f1,(rd_T32 x5_3 x12_3).f0.f2,(rd_T32 x5_3 x12_3).f0.f3,(rd_T32 x5_3 x12_3).f0.f4,(rd_T32 x5_3 x12_3).f0.f5,(rd_T32 x5_3 x12_3).f0.f6,(rd_T32 x5_3 x12_3).f0.f7,(rd_T32 x5_3 x12_3).f0.f8,(rd_T32 x5_3 x12_3).f0.f9,(rd_T32 x5_3 x12_3).f0.f10,(rd_T32 x5_3 x12_3).f0.f11] (ji53)) 2)) ((rd_T32 x5_3 x12_3).f0.f1),putI (ji53) 2 (wrap64 (Int.tdiv (selI [(rd_T32 x5_3 x12_3).f0.f0,(rd_T32 x5_3 x12_3).f0.f1,(rd_T32 x5_3 x12_3).f0.f2,(rd_T32 x5_3 x12_3).f0.f3,(rd_T32 x5_3 x12_3).f0.f4,(rd_T32 x5_3 x12_3).f0.f5,(rd_T32 x5_3 x12_3).f0.f6,(rd_T32 x5_3 x12_3).f0.f7,(rd_T32 x5_3 x12_3).f0.f8,(rd_T32 x5_3 x12_3).f0.f9,(rd_T32 x5_3 x12_3).f0.f10,(rd_T32 x5_3 x12_3).f0.f11] (ji53)) 2)) ((rd_T32 x5_3 x12_3).f0.f2),putI (ji53) 3 (wrap64 (Int.tdiv (selI [(rd_T32 x5_3 x12_3).f0.f0,(rd_T32 x5_3 x12_3).f0.f1,(rd_T32 x5_3 x12_3).f0.f2,(rd_T32 x5_3 x12_3).f0.f3,(rd_T32 x5_3 x12_3).f0.f4,(rd_T32 x5_3 x12_3).f0.f5,(rd_T32 x5_3 x12_3).f0.f6,(rd_T32 x5_3 x12_3).f0.f7,(rd_T32 x5_3 x12_3).f0.f8,(rd_T32 x5_3 x12_3).f0.f9,(rd_T32 x5_3 x12_3).f0.f10,(rd_T32 x5_3 x12_3).f0.f11] (ji53)) 2)) ((rd_T32 x5_3 x12_3).f0.f3),putI (ji53) 4 (wrap64 (Int.tdiv (selI [(rd_T32 x5_3 x12_3).f0.f0,(rd_T32 x5_3 x12_3).f0.f1,(rd_T32 x5_3 x12_3).f0.f2,(rd_T32 x5_3 x12_3).f0.f3,(rd_T32 x5_3 x12_3).f0.f4,(rd_T32 x5_3 x12_3).f0.f5,(rd_T32 x5_3 x12_3).f0.f6,(rd_T32 x5_3 x12_3).f0.f7,(rd_T32 x5_3 x12_3).f0.f8,(rd_T32 x5_3 x12_3).f0.f9,(rd_T32 x5_3 x12_3).f0.f10,(rd_T32 x5_3 x12_3).f0.f11] (ji53)) 2)) ((rd_T32 x5_3 x12_3).f0.f4),putI (ji53) 5 (wrap64 (Int.tdiv (selI [(rd_T32 x5_3 x12_3).f0.f0,(rd_T32 x5_3 x12_3).f0.f1,(rd_T32 x5_3 x12_3).f0.f2,(rd_T32 x5_3 x12_3).f0.f3,(rd_T32 x5_3 x12_3).f0.f4,(rd_T32 x5_3 x12_3).f0.f5,(rd_T32 x5_3 x12_3).f0.f6,(rd_T32 x5_3 x12_3).f0.f7,(rd_T32 x5_3 x12_3).f0.f8,(rd_T32 x5_3 x12_3).f0.f9,(rd_T32 x5_3 x12_3).f0.f10,(rd_T32 x5_3 x12_3).f0.f11] (ji53)) 2)) ((rd_T32 x5_3 x12_3).f0.f5),putI (ji53) 6 (wrap64 (Int.tdiv (selI [(rd_T32 x5_3 x12_3).f0.f0,(rd_T32 x5_3 x12_3).f0.f1,(rd_T32 x5_3 x12_3).f0.f2,(rd_T32 x5_3 x12_3).f0.f3,(rd_T32 x5_3 x12_3).f0.f4,(rd_T32 x5_3 x12_3).f0.f5,(rd_T32 x5_3 x12_3).f0.f6,(rd_T32 x5_3 x12_3).f0.f7,(rd_T32 x5_3 x12_3).f0.f8,(rd_T32 x5_3 x12_3).f0.f9,(rd_T32 x5_3 x12_3).f0.f10,(rd_T32 x5_3 x12_3).f0.f11] (ji53)) 2)) ((rd_T32 x5_3 x12_3).f0.f6),putI (ji53) 7 (wrap64 (Int.tdiv (selI [(rd_T32 x5_3 x12_3).f0.f0,(rd_T32 x5_3 x12_3).f0.f1,(rd_T32 x5_3 x12_3).f0.f2,(rd_T32 x5_3 x12_3).f0.f3,(rd_T32 x5_3 x12_3).f0.f4,(rd_T32 x5_3 x12_3).f0.f5,(rd_T32 x5_3 x12_3).f0.f6,(rd_T32 x5_3 x12_3).f0.f7,(rd_T32 x5_3 x12_3).f0.f8,(rd_T32 x5_3 x12_3).f0.f9,(rd_T32 x5_3 x12_3).f0.f10,(rd_T32 x5_3 x12_3).f0.f11] (ji53)) 2)) ((rd_T32 x5_3 x12_3).f0.f7),putI (ji53) 8 (wrap64 (Int.tdiv (selI [(rd_T32 x5_3 x12_3).f0.f0,(rd_T32 x5_3 x12_3).f0.f1,(rd_T32 x5_3 x12_3).f0.f2,(rd_T32 x5_3 x12_3).f0.f3,(rd_T32 x5_3 x12_3).f0.f4,(rd_T32 x5_3 x12_3).f0.f5,(rd_T32 x5_3 x12_3).f0.f6,(rd_T32 x5_3 x12_3).f0.f7,(rd_T32 x5_3 x12_3).f0.f8,(rd_T32 x5_3 x12_3).f0.f9,(rd_T32 x5_3 x12_3).f0.f10,(rd_T32 x5_3 x12_3).f0.f11] (ji53)) 2)) ((rd_T32 x5_3 x12_3).f0.f8),putI (ji53) 9 (wrap64 (Int.tdiv (selI [(rd_T32 x5_3 x12_3).f0.f0,(rd_T32 x5_3 x12_3).f0.f1,(rd_T32 x5_3 x12_3).f0.f2,(rd_T32 x5_3 x12_3).f0.f3,(rd_T32 x5_3 x12_3).f0.f4,(rd_T32 x5_3 x12_3).f0.f5,(rd_T32 x5_3 x12_3).f0.f6,(rd_T32 x5_3 x12_3).f0.f7,(rd_T32 x5_3 x12_3).f0.f8,(rd_T32 x5_3 x12_3).f0.f9,(rd_T32 x5_3 x12_3).f0.f10,(rd_T32 x5_3 x12_3).f0.f11] (ji53)) 2)) ((rd_T32 x5_3 x12_3).f0.f9),putI (ji53) 10 (wrap64 (Int.tdiv (selI [(rd_T32 x5_3 x12_3).f0.f0,(rd_T32 x5_3 x12_3).f0.f1,(rd_T32 x5_3 x12_3).f0.f2,(rd_T32 x5_3 x12_3).f0.f3,(rd_T32 x5_3 x12_3).f0.f4,(rd_T32 x5_3 x12_3).f0.f5,(rd_T32 x5_3 x12_3).f0.f6,(rd_T32 x5_3 x12_3).f0.f7,(rd_T32 x5_3 x12_3).f0.f8,(rd_T32 x5_3 x12_3).f0.f9,(rd_T32 x5_3 x12_3).f0.f10,(rd_T32 x5_3 x12_3).f0.f11] (ji53)) 2)) ((rd_T32 x5_3 x12_3).f0.f10),putI (ji53) 11 (wrap64 (Int.tdiv (selI [(rd_T32 x5_3 x12_3).f0.f0,(rd_T32 x5_3 x12_3).f0.f1,(rd_T32 x5_3 x12_3).f0.f2,(rd_T32 x5_3 x12_3).f0.f3,(rd_T32 x5_3 x12_3).f0.f4,(rd_T32 x5_3 x12_3).f0.f5,(rd_T32 x5_3 x12_3).f0.f6,(rd_T32 x5_3 x12_3).f0.f7,(rd_T32 x5_3 x12_3).f0.f8,(rd_T32 x5_3 x12_3).f0.f9,(rd_T32 x5_3 x12_3).f0.f10,(rd_T32 x5_3 x12_3).f0.f11] (ji53)) 2)) ((rd_T32 x5_3 x12_3).f0.f11)⟩ : S30)⟩ : S32) )) (fun _ hk => hk)).1
                    have hx61_v := hcc61 ((ji53) : Int).toNat _ (sel_arr12 ((rd_T32 x5_3 x12_3).f0.f0) ((rd_T32 x5_3 x12_3).f0.f1) ((rd_T32 x5_3 x12_3).f0.f2) ((rd_T32 x5_3 x12_3).f0.f3) ((rd_T32 x5_3 x12_3).f0.f4) ((rd_T32 x5_3 x12_3).f0.f5) ((rd_T32 x5_3 x12_3).f0.f6) ((rd_T32 x5_3 x12_3).f0.f7) ((rd_T32 x5_3 x12_3).f0.f8) ((rd_T32 x5_3 x12_3).f0.f9) ((rd_T32 x5_3 x12_3).f0.f10) ((rd_T32 x5_3 x12_3).f0.f11) (ji53) (of_eq_true p185) (of_eq_true q185))
                    have hf61_v := hfr61 ((ji53) : Int).toNat
                    simp only [show k32.sz = 12 from rfl] at hx61_v hf61_v
                    rw [← Ny185.out] at HP61
                    have HQ61 := Aside0.mk HP61
                    clear hcl61 hcc61 hfr61 hM61 HP61
                    refine start_ (n:=17) (S:=fun w' => w'.cell? ⟨go60,((x12_3).toNat * 12),none⟩ = some (.int .i64 ((rd_T32 x5_3 x12_3).f0.f0)) ∧ w'.cell? ⟨go60,((x12_3).toNat * 12) + 1,none⟩ = some (.int .i64 ((rd_T32 x5_3 x12_3).f0.f1)) ∧ w'.cell? ⟨go60,((x12_3).toNat * 12) + 2,none⟩ = some (.int .i64 ((rd_T32 x5_3 x12_3).f0.f2)) ∧ w'.cell? ⟨go60,((x12_3).toNat * 12) + 3,none⟩ = some (.int .i64 ((rd_T32 x5_3 x12_3).f0.f3)) ∧ w'.cell? ⟨go60,((x12_3).toNat * 12) + 4,none⟩ = some (.int .i64 ((rd_T32 x5_3 x12_3).f0.f4)) ∧ w'.cell? ⟨go60,((x12_3).toNat * 12) + 5,none⟩ = some (.int .i64 ((rd_T32 x5_3 x12_3).f0.f5)) ∧ w'.cell? ⟨go60,((x12_3).toNat * 12) + 6,none⟩ = some (.int .i64 ((rd_T32 x5_3 x12_3).f0.f6)) ∧ w'.cell? ⟨go60,((x12_3).toNat * 12) + 7,none⟩ = some (.int .i64 ((rd_T32 x5_3 x12_3).f0.f7)) ∧ w'.cell? ⟨go60,((x12_3).toNat * 12) + 8,none⟩ = some (.int .i64 ((rd_T32 x5_3 x12_3).f0.f8)) ∧ w'.cell? ⟨go60,((x12_3).toNat * 12) + 9,none⟩ = some (.int .i64 ((rd_T32 x5_3 x12_3).f0.f9)) ∧ w'.cell? ⟨go60,((x12_3).toNat * 12) + 10,none⟩ = some (.int .i64 ((rd_T32 x5_3 x12_3).f0.f10)) ∧ w'.cell? ⟨go60,((x12_3).toNat * 12) + 11,none⟩ = some (.int .i64 ((rd_T32 x5_3 x12_3).f0.f11)) ∧ w'.cell? ⟨go60,(x12_3 : Int).toNat * 12 + ((ji53) : Int).toNat,none⟩ = some (.int .i64 (selI [(rd_T32 x5_3 x12_3).f0.f0,(rd_T32 x5_3 x12_3).f0.f1,(rd_T32 x5_3 x12_3).f0.f2,(rd_T32 x5_3 x12_3).f0.f3,(rd_T32 x5_3 x12_3).f0.f4,(rd_T32 x5_3 x12_3).f0.f5,(rd_T32 x5_3 x12_3).f0.f6,(rd_T32 x5_3 x12_3).f0.f7,(rd_T32 x5_3 x12_3).f0.f8,(rd_T32 x5_3 x12_3).f0.f9,(rd_T32 x5_3 x12_3).f0.f10,(rd_T32 x5_3 x12_3).f0.f11] (ji53)))) (ds:=[16]) #[false,false,false,false,false,false,false,false,false,false,false,false,false,false,false,false,false] (by kernel_rfl) rfl rfl ⟨hx182_0,hx182_1,hx182_2,hx182_3,hx182_4,hx182_5,hx182_6,hx182_7,hx182_8,hx182_9,hx182_10,hx182_11,hsv183⟩ (fun hHeld => ?_);refine with_tabW arrearslaw8_LedgerTotals.tab20 arrearslaw8_LedgerTotals.bits20 (fun HT_ HW_ => ?_)
                    generalize wr.drew = w59 at HO_5 HO_11 BK137 BK158 BK172 HB GG60 HQ61 hf56_0 hf56_1 hf56_10 hf56_11 hf56_2 hf56_3 hf56_4 hf56_5 hf56_6 hf56_7 hf56_8 hf56_9 hx182_0 hx182_1 hx182_10 hx182_11 hx182_2 hx182_3 hx182_4 hx182_5 hx182_6 hx182_7 hx182_8 hx182_9 hx56_0 hx56_1 hx56_10 hx56_11 hx56_2 hx56_3 hx56_4 hx56_5 hx56_6 hx56_7 hx56_8 hx56_9 hx61_v hf61_v hHeld ⊢
                    refine pure_ (i:=0) (N:=some 78) (v:=?_) (a' := ?_) #[true,false,false,false,false,false,false,false,false,false,false,false,false,false,false,false,false] rfl rfl (any_of HT_.out (by kernel_rfl)) (fun _ _ _ h => h) (Or.inl ⟨by rfl,?_⟩) ?_ ?_
                    rotate_left
                    ·
                     intro w'
                     go_simp
                     with_reducible rfl
                    rotate_left
                    ·
                     simp only [Act.put,List.setIfInBounds_toArray,List.set_cons_zero,List.set_cons_succ,i64_w,i32_w]
                     rfl
                    refine pure_ (i:=1) (N:=some 79) (v:=?_) (a' := ?_) #[true,true,false,false,false,false,false,false,false,false,false,false,false,false,false,false,false] rfl rfl (any_of HT_.out (by kernel_rfl)) (fun _ _ _ h => h) (Or.inl ⟨by rfl,?_⟩) ?_ ?_
                    rotate_left
                    ·
                     intro w'
                     go_simp
                     with_reducible rfl
                    rotate_left
                    ·
                     simp only [Act.put,List.setIfInBounds_toArray,List.set_cons_zero,List.set_cons_succ,i64_w,i32_w]
                     rfl
                    refine pure_ (i:=2) (N:=some 80) (v:=?_) (a' := ?_) #[true,true,true,false,false,false,false,false,false,false,false,false,false,false,false,false,false] rfl rfl (any_of HT_.out (by kernel_rfl)) (fun _ _ _ h => h) (Or.inl ⟨by rfl,?_⟩) ?_ ?_
                    rotate_left
                    ·
                     intro w'
                     go_simp
                     with_reducible rfl
                    rotate_left
                    ·
                     simp only [Act.put,List.setIfInBounds_toArray,List.set_cons_zero,List.set_cons_succ,i64_w,i32_w]
                     rfl
                    refine pure_ (i:=3) (N:=some 81) (v:=?_) (a' := ?_) #[true,true,true,true,false,false,false,false,false,false,false,false,false,false,false,false,false] rfl rfl (any_of HT_.out (by kernel_rfl)) (fun _ _ _ h => h) (Or.inl ⟨by rfl,?_⟩) ?_ ?_
                    rotate_left
                    ·
                     intro w'
                     go_simp
                     with_reducible rfl
                    rotate_left
                    ·
                     simp only [Act.put,List.setIfInBounds_toArray,List.set_cons_zero,List.set_cons_succ,i64_w,i32_w]
                     rfl
                    refine pure_ (i:=4) (N:=some 82) (v:=?_) (a' := ?_) #[true,true,true,true,true,false,false,false,false,false,false,false,false,false,false,false,false] rfl rfl (any_of HT_.out (by kernel_rfl)) (fun _ _ _ h => h) (Or.inl ⟨by rfl,?_⟩) ?_ ?_
                    rotate_left
                    ·
                     intro w'
                     go_simp
                     with_reducible rfl
                    rotate_left
                    ·
                     simp only [Act.put,List.setIfInBounds_toArray,List.set_cons_zero,List.set_cons_succ,i64_w,i32_w]
                     rfl
                    refine pure_ (i:=5) (N:=some 83) (v:=?_) (a' := ?_) #[true,true,true,true,true,true,false,false,false,false,false,false,false,false,false,false,false] rfl rfl (any_of HT_.out (by kernel_rfl)) (fun _ _ _ h => h) (Or.inl ⟨by rfl,?_⟩) ?_ ?_
                    rotate_left
                    ·
                     intro w'
                     go_simp
                     with_reducible rfl
                    rotate_left
                    ·
                     simp only [Act.put,List.setIfInBounds_toArray,List.set_cons_zero,List.set_cons_succ,i64_w,i32_w]
                     rfl
                    refine pure_ (i:=6) (N:=some 84) (v:=?_) (a' := ?_) #[true,true,true,true,true,true,true,false,false,false,false,false,false,false,false,false,false] rfl rfl (any_of HT_.out (by kernel_rfl)) (fun _ _ _ h => h) (Or.inl ⟨by rfl,?_⟩) ?_ ?_
                    rotate_left
                    ·
                     intro w'
                     go_simp
                     with_reducible rfl
                    rotate_left
                    ·
                     simp only [Act.put,List.setIfInBounds_toArray,List.set_cons_zero,List.set_cons_succ,i64_w,i32_w]
                     rfl
                    refine pure_ (i:=7) (N:=some 85) (v:=?_) (a' := ?_) #[true,true,true,true,true,true,true,true,false,false,false,false,false,false,false,false,false] rfl rfl (any_of HT_.out (by kernel_rfl)) (fun _ _ _ h => h) (Or.inl ⟨by rfl,?_⟩) ?_ ?_
                    rotate_left
                    ·
                     intro w'
                     go_simp
                     with_reducible rfl
                    rotate_left
                    ·
                     simp only [Act.put,List.setIfInBounds_toArray,List.set_cons_zero,List.set_cons_succ,i64_w,i32_w]
                     rfl
                    refine pure_ (i:=8) (N:=some 86) (v:=?_) (a' := ?_) #[true,true,true,true,true,true,true,true,true,false,false,false,false,false,false,false,false] rfl rfl (any_of HT_.out (by kernel_rfl)) (fun _ _ _ h => h) (Or.inl ⟨by rfl,?_⟩) ?_ ?_
                    rotate_left
                    ·
                     intro w'
                     go_simp
                     with_reducible rfl
                    rotate_left
                    ·
                     simp only [Act.put,List.setIfInBounds_toArray,List.set_cons_zero,List.set_cons_succ,i64_w,i32_w]
                     rfl
                    refine pure_ (i:=9) (N:=some 87) (v:=?_) (a' := ?_) #[true,true,true,true,true,true,true,true,true,true,false,false,false,false,false,false,false] rfl rfl (any_of HT_.out (by kernel_rfl)) (fun _ _ _ h => h) (Or.inl ⟨by rfl,?_⟩) ?_ ?_
                    rotate_left
                    ·
                     intro w'
                     go_simp
                     with_reducible rfl
                    rotate_left
                    ·
                     simp only [Act.put,List.setIfInBounds_toArray,List.set_cons_zero,List.set_cons_succ,i64_w,i32_w]
                     rfl
                    refine pure_ (i:=10) (N:=some 88) (v:=?_) (a' := ?_) #[true,true,true,true,true,true,true,true,true,true,true,false,false,false,false,false,false] rfl rfl (any_of HT_.out (by kernel_rfl)) (fun _ _ _ h => h) (Or.inl ⟨by rfl,?_⟩) ?_ ?_
                    rotate_left
                    ·
                     intro w'
                     go_simp
                     with_reducible rfl
                    rotate_left
                    ·
                     simp only [Act.put,List.setIfInBounds_toArray,List.set_cons_zero,List.set_cons_succ,i64_w,i32_w]
                     rfl
                    refine pure_ (i:=13) (N:=some 91) (v:=?_) (a' := ?_) #[true,true,true,true,true,true,true,true,true,true,true,false,false,true,false,false,false] rfl rfl (any_of HT_.out (by kernel_rfl)) (fun _ _ _ h => h) (Or.inl ⟨by rfl,?_⟩) ?_ ?_
                    rotate_left
                    ·
                     intro w'
                     go_simp
                     with_reducible rfl
                    rotate_left
                    ·
                     simp only [Act.put,List.setIfInBounds_toArray,List.set_cons_zero,List.set_cons_succ,i64_w,i32_w]
                     rfl
                    refine pure_ (i:=14) (N:=some 92) (v:=?_) (a' := ?_) #[true,true,true,true,true,true,true,true,true,true,true,false,false,true,true,false,false] rfl rfl (any_of HT_.out (by kernel_rfl)) (fun _ _ _ h => h) (Or.inl ⟨by rfl,?_⟩) ?_ ?_
                    rotate_left
                    ·
                     intro w'
                     go_simp
                     with_reducible rfl
                    rotate_left
                    ·
                     simp only [Act.put,List.setIfInBounds_toArray,List.set_cons_zero,List.set_cons_succ,i64_w,i32_w]
                     rfl
                    refine take_ (i:=11) (N:=some 89) (v:=?_) (a' := ?_) #[true,true,true,true,true,true,true,true,true,true,true,true,false,true,true,false,false] rfl rfl (take_ofW HT_.out HW_.out (by kernel_rfl)) (fun _ _ _ h => h) (Or.inl ⟨by rfl,?_⟩) hHeld ?_ ?_
                    rotate_left
                    ·
                     rintro w' ⟨s0,s1,s2,s3,s4,s5,s6,s7,s8,s9,s10,s11,s12⟩
                     go_simp
                     with_reducible rfl
                    rotate_left
                    ·
                     simp only [Act.put,List.setIfInBounds_toArray,List.set_cons_zero,List.set_cons_succ,i64_w,i32_w]
                     rfl
                    refine pure_ (i:=12) (N:=some 90) (v:=?_) (a' := ?_) #[true,true,true,true,true,true,true,true,true,true,true,true,true,true,true,false,false] rfl rfl (any_of HT_.out (by kernel_rfl)) (fun _ _ _ h => h) (Or.inl ⟨by rfl,?_⟩) ?_ ?_
                    rotate_left
                    ·
                     intro w'
                     go_simp
                     with_reducible rfl
                    rotate_left
                    ·
                     simp only [Act.put,List.setIfInBounds_toArray,List.set_cons_zero,List.set_cons_succ,i64_w,i32_w]
                     rfl
                    refine pure_ (i:=15) (N:=some 93) (v:=?_) (a' := ?_) #[true,true,true,true,true,true,true,true,true,true,true,true,true,true,true,true,false] rfl rfl (any_of HT_.out (by kernel_rfl)) (fun _ _ _ h => h) (Or.inl ⟨by rfl,?_⟩) ?_ ?_
                    rotate_left
                    ·
                     intro w'
                     go_simp
                     with_reducible rfl
                    rotate_left
                    ·
                     simp only [Act.put,List.setIfInBounds_toArray,List.set_cons_zero,List.set_cons_succ,i64_w,i32_w]
                     rfl
                    refine last_ (i:=16) (N:=none) #[true,true,true,true,true,true,true,true,true,true,true,true,true,true,true,true,true] rfl rfl (one_of HT_.out (by kernel_rfl)) (by decide) (fun K hK => ?_)
                    refine skip_ (w1:=?_) (by rfl) rfl ?_ ?_
                    rotate_left
                    ·
                     go_simp
                     rfl
                    refine hK.out _ _ ?_
                    clear hK K
                    refine done_ (done_of HT_.out (by kernel_rfl)) ?_
                    have p57 : 0 ≤ (x12_3 : Int) := of_decide_eq_true (by first | (with_reducible assumption) | assumption)
                    have q57 : (x12_3 : Int) < ((x5_3.length : Int) : Int) := of_decide_eq_true (by first | (with_reducible assumption) | assumption)
                    replace p57 := eq_true p57
                    replace q57 := eq_true q57
                    have hlt_ : (x12_3 : Int).toNat < x5_3.length := (by have h1_ := of_eq_true p57;have h2_ := of_eq_true q57;omega)
                    obtain ⟨cn_,hcnl_,hcnM_,hcnc_,hcnf_⟩ := Kd.R_elem HQ61.out z32 (x12_3 : Int) (of_eq_true p57) (of_eq_true q57)
                    rw [Ny185.out,List.getD_eq_getElem?_getD,List.getElem?_set_self hlt_,Option.getD_some] at hcnM_
                    obtain rfl := k32_openM hcnM_
                    have hn_0 := hcnc_ 0 _ rfl
                    have hn_1 := hcnc_ 1 _ rfl
                    have hn_2 := hcnc_ 2 _ rfl
                    have hn_3 := hcnc_ 3 _ rfl
                    have hn_4 := hcnc_ 4 _ rfl
                    have hn_5 := hcnc_ 5 _ rfl
                    have hn_6 := hcnc_ 6 _ rfl
                    have hn_7 := hcnc_ 7 _ rfl
                    have hn_8 := hcnc_ 8 _ rfl
                    have hn_9 := hcnc_ 9 _ rfl
                    have hn_10 := hcnc_ 10 _ rfl
                    have hn_11 := hcnc_ 11 _ rfl
                    simp only [World.setCells,show k32.sz = 12 from rfl,Nat.add_zero] at hn_0 hn_1 hn_2 hn_3 hn_4 hn_5 hn_6 hn_7 hn_8 hn_9 hn_10 hn_11
                    clear hcnl_ hcnM_ hcnc_ hcnf_ hlt_
                    try go_wp2_with (first | ((with_reducible refine gate_builtin (b:=.append) (xs:=#[.tmp 94, .tmp 99]) rfl ?_);(try (refine gate_guard (by rfl) ?_;dsimp only));at_builtin;refine Kd.R_append k32 (w0:=w) w.heap.size rfl (.tmp 94) (.tmp 99) 29 32 (.agg #[(.int .i64 0),(.int .i64 0),(.int .i64 0),(.int .i64 0),(.int .i64 0),(.int .i64 0),(.int .i64 0),(.int .i64 0),(.int .i64 0),(.int .i64 0),(.int .i64 0),(.int .i64 0)]) 96 rfl Try.underlying29 info32 rfl (by decide) (by omega) u11 x11_3 (⟨(⟨putI (ji53) 0 (wrap64 (Int.tdiv (selI [(rd_T32 x5_3 x12_3).f0.f0,(rd_T32 x5_3 x12_3).f0.f1,(rd_T32 x5_3 x12_3).f0.f2,(rd_T32 x5_3 x12_3).f0.f3,(rd_T32 x5_3 x12_3).f0.f4,(rd_T32 x5_3 x12_3).f0.f5,(rd_T32 x5_3 x12_3).f0.f6,(rd_T32 x5_3 x12_3).f0.f7,(rd_T32 x5_3 x12_3).f0.f8,(rd_T32 x5_3 x12_3).f0.f9,(rd_T32 x5_3 x12_3).f0.f10,(rd_T32 x5_3 x12_3).f0.f11] (ji53)) 2)) ((rd_T32 x5_3 x12_3).f0.f0),putI (ji53) 1 (wrap64 (Int.tdiv (selI [(rd_T32 x5_3 x12_3).f0.f0,(rd_T32 x5_3 x12_3).f0.f1,(rd_T32 x5_3 x12_3).f0.f2,(rd_T32 x5_3 x12_3).f0.f3,(rd_T32 x5_3 x12_3).f0.f4,(rd_T32 x5_3 x12_3).f0.f5,(rd_T32 x5_3 x12_3).f0.f6,(rd_T32 x5_3 x12_3).f0.f7,(rd_T32 x5_3 x12_3).f0.f8,(rd_T32 x5_3 x12_3).f0.f9,(rd_T32 x5_3 x12_3).f0.f10,(rd_T32 x5_3 x12_3).f0.f11] (ji53)) 2)) ((rd_T32 x5_3 x12_3).f0.f1),putI (ji53) 2 (wrap64 (Int.tdiv (selI [(rd_T32 x5_3 x12_3).f0.f0,(rd_T32 x5_3 x12_3).f0.f1,(rd_T32 x5_3 x12_3).f0.f2,(rd_T32 x5_3 x12_3).f0.f3,(rd_T32 x5_3 x12_3).f0.f4,(rd_T32 x5_3 x12_3).f0.f5,(rd_T32 x5_3 x12_3).f0.f6,(rd_T32 x5_3 x12_3).f0.f7,(rd_T32 x5_3 x12_3).f0.f8,(rd_T32 x5_3 x12_3).f0.f9,(rd_T32 x5_3 x12_3).f0.f10,(rd_T32 x5_3 x12_3).f0.f11] (ji53)) 2)) ((rd_T32 x5_3 x12_3).f0.f2),putI (ji53) 3 (wrap64 (Int.tdiv (selI [(rd_T32 x5_3 x12_3).f0.f0,(rd_T32 x5_3 x12_3).f0.f1,(rd_T32 x5_3 x12_3).f0.f2,(rd_T32 x5_3 x12_3).f0.f3,(rd_T32 x5_3 x12_3).f0.f4,(rd_T32 x5_3 x12_3).f0.f5,(rd_T32 x5_3 x12_3).f0.f6,(rd_T32 x5_3 x12_3).f0.f7,(rd_T32 x5_3 x12_3).f0.f8,(rd_T32 x5_3 x12_3).f0.f9,(rd_T32 x5_3 x12_3).f0.f10,(rd_T32 x5_3 x12_3).f0.f11] (ji53)) 2)) ((rd_T32 x5_3 x12_3).f0.f3),putI (ji53) 4 (wrap64 (Int.tdiv (selI [(rd_T32 x5_3 x12_3).f0.f0,(rd_T32 x5_3 x12_3).f0.f1,(rd_T32 x5_3 x12_3).f0.f2,(rd_T32 x5_3 x12_3).f0.f3,(rd_T32 x5_3 x12_3).f0.f4,(rd_T32 x5_3 x12_3).f0.f5,(rd_T32 x5_3 x12_3).f0.f6,(rd_T32 x5_3 x12_3).f0.f7,(rd_T32 x5_3 x12_3).f0.f8,(rd_T32 x5_3 x12_3).f0.f9,(rd_T32 x5_3 x12_3).f0.f10,(rd_T32 x5_3 x12_3).f0.f11] (ji53)) 2)) ((rd_T32 x5_3 x12_3).f0.f4),putI (ji53) 5 (wrap64 (Int.tdiv (selI [(rd_T32 x5_3 x12_3).f0.f0,(rd_T32 x5_3 x12_3).f0.f1,(rd_T32 x5_3 x12_3).f0.f2,(rd_T32 x5_3 x12_3).f0.f3,(rd_T32 x5_3 x12_3).f0.f4,(rd_T32 x5_3 x12_3).f0.f5,(rd_T32 x5_3 x12_3).f0.f6,(rd_T32 x5_3 x12_3).f0.f7,(rd_T32 x5_3 x12_3).f0.f8,(rd_T32 x5_3 x12_3).f0.f9,(rd_T32 x5_3 x12_3).f0.f10,(rd_T32 x5_3 x12_3).f0.f11] (ji53)) 2)) ((rd_T32 x5_3 x12_3).f0.f5),putI (ji53) 6 (wrap64 (Int.tdiv (selI [(rd_T32 x5_3 x12_3).f0.f0,(rd_T32 x5_3 x12_3).f0.f1,(rd_T32 x5_3 x12_3).f0.f2,(rd_T32 x5_3 x12_3).f0.f3,(rd_T32 x5_3 x12_3).f0.f4,(rd_T32 x5_3 x12_3).f0.f5,(rd_T32 x5_3 x12_3).f0.f6,(rd_T32 x5_3 x12_3).f0.f7,(rd_T32 x5_3 x12_3).f0.f8,(rd_T32 x5_3 x12_3).f0.f9,(rd_T32 x5_3 x12_3).f0.f10,(rd_T32 x5_3 x12_3).f0.f11] (ji53)) 2)) ((rd_T32 x5_3 x12_3).f0.f6),putI (ji53) 7 (wrap64 (Int.tdiv (selI [(rd_T32 x5_3 x12_3).f0.f0,(rd_T32 x5_3 x12_3).f0.f1,(rd_T32 x5_3 x12_3).f0.f2,(rd_T32 x5_3 x12_3).f0.f3,(rd_T32 x5_3 x12_3).f0.f4,(rd_T32 x5_3 x12_3).f0.f5,(rd_T32 x5_3 x12_3).f0.f6,(rd_T32 x5_3 x12_3).f0.f7,(rd_T32 x5_3 x12_3).f0.f8,(rd_T32 x5_3 x12_3).f0.f9,(rd_T32 x5_3 x12_3).f0.f10,(rd_T32 x5_3 x12_3).f0.f11] (ji53)) 2)) ((rd_T32 x5_3 x12_3).f0.f7),putI (ji53) 8 (wrap64 (Int.tdiv (selI [(rd_T32 x5_3 x12_3).f0.f0,(rd_T32 x5_3 x12_3).f0.f1,(rd_T32 x5_3 x12_3).f0.f2,(rd_T32 x5_3 x12_3).f0.f3,(rd_T32 x5_3 x12_3).f0.f4,(rd_T32 x5_3 x12_3).f0.f5,(rd_T32 x5_3 x12_3).f0.f6,(rd_T32 x5_3 x12_3).f0.f7,(rd_T32 x5_3 x12_3).f0.f8,(rd_T32 x5_3 x12_3).f0.f9,(rd_T32 x5_3 x12_3).f0.f10,(rd_T32 x5_3 x12_3).f0.f11] (ji53)) 2)) ((rd_T32 x5_3 x12_3).f0.f8),putI (ji53) 9 (wrap64 (Int.tdiv (selI [(rd_T32 x5_3 x12_3).f0.f0,(rd_T32 x5_3 x12_3).f0.f1,(rd_T32 x5_3 x12_3).f0.f2,(rd_T32 x5_3 x12_3).f0.f3,(rd_T32 x5_3 x12_3).f0.f4,(rd_T32 x5_3 x12_3).f0.f5,(rd_T32 x5_3 x12_3).f0.f6,(rd_T32 x5_3 x12_3).f0.f7,(rd_T32 x5_3 x12_3).f0.f8,(rd_T32 x5_3 x12_3).f0.f9,(rd_T32 x5_3 x12_3).f0.f10,(rd_T32 x5_3 x12_3).f0.f11] (ji53)) 2)) ((rd_T32 x5_3 x12_3).f0.f9),putI (ji53) 10 (wrap64 (Int.tdiv (selI [(rd_T32 x5_3 x12_3).f0.f0,(rd_T32 x5_3 x12_3).f0.f1,(rd_T32 x5_3 x12_3).f0.f2,(rd_T32 x5_3 x12_3).f0.f3,(rd_T32 x5_3 x12_3).f0.f4,(rd_T32 x5_3 x12_3).f0.f5,(rd_T32 x5_3 x12_3).f0.f6,(rd_T32 x5_3 x12_3).f0.f7,(rd_T32 x5_3 x12_3).f0.f8,(rd_T32 x5_3 x12_3).f0.f9,(rd_T32 x5_3 x12_3).f0.f10,(rd_T32 x5_3 x12_3).f0.f11] (ji53)) 2)) ((rd_T32 x5_3 x12_3).f0.f10),putI (ji53) 11 (wrap64 (Int.tdiv (selI [(rd_T32 x5_3 x12_3).f0.f0,(rd_T32 x5_3 x12_3).f0.f1,(rd_T32 x5_3 x12_3).f0.f2,(rd_T32 x5_3 x12_3).f0.f3,(rd_T32 x5_3 x12_3).f0.f4,(rd_T32 x5_3 x12_3).f0.f5,(rd_T32 x5_3 x12_3).f0.f6,(rd_T32 x5_3 x12_3).f0.f7,(rd_T32 x5_3 x12_3).f0.f8,(rd_T32 x5_3 x12_3).f0.f9,(rd_T32 x5_3 x12_3).f0.f10,(rd_T32 x5_3 x12_3).f0.f11] (ji53)) 2)) ((rd_T32 x5_3 x12_3).f0.f11)⟩ : S30)⟩ : S32) [.int .i64 (putI (ji53) 0 (wrap64 (Int.tdiv (selI [(rd_T32 x5_3 x12_3).f0.f0,(rd_T32 x5_3 x12_3).f0.f1,(rd_T32 x5_3 x12_3).f0.f2,(rd_T32 x5_3 x12_3).f0.f3,(rd_T32 x5_3 x12_3).f0.f4,(rd_T32 x5_3 x12_3).f0.f5,(rd_T32 x5_3 x12_3).f0.f6,(rd_T32 x5_3 x12_3).f0.f7,(rd_T32 x5_3 x12_3).f0.f8,(rd_T32 x5_3 x12_3).f0.f9,(rd_T32 x5_3 x12_3).f0.f10,(rd_T32 x5_3 x12_3).f0.f11] (ji53)) 2)) ((rd_T32 x5_3 x12_3).f0.f0)), .int .i64 (putI (ji53) 1 (wrap64 (Int.tdiv (selI [(rd_T32 x5_3 x12_3).f0.f0,(rd_T32 x5_3 x12_3).f0.f1,(rd_T32 x5_3 x12_3).f0.f2,(rd_T32 x5_3 x12_3).f0.f3,(rd_T32 x5_3 x12_3).f0.f4,(rd_T32 x5_3 x12_3).f0.f5,(rd_T32 x5_3 x12_3).f0.f6,(rd_T32 x5_3 x12_3).f0.f7,(rd_T32 x5_3 x12_3).f0.f8,(rd_T32 x5_3 x12_3).f0.f9,(rd_T32 x5_3 x12_3).f0.f10,(rd_T32 x5_3 x12_3).f0.f11] (ji53)) 2)) ((rd_T32 x5_3 x12_3).f0.f1)), .int .i64 (putI (ji53) 2 (wrap64 (Int.tdiv (selI [(rd_T32 x5_3 x12_3).f0.f0,(rd_T32 x5_3 x12_3).f0.f1,(rd_T32 x5_3 x12_3).f0.f2,(rd_T32 x5_3 x12_3).f0.f3,(rd_T32 x5_3 x12_3).f0.f4,(rd_T32 x5_3 x12_3).f0.f5,(rd_T32 x5_3 x12_3).f0.f6,(rd_T32 x5_3 x12_3).f0.f7,(rd_T32 x5_3 x12_3).f0.f8,(rd_T32 x5_3 x12_3).f0.f9,(rd_T32 x5_3 x12_3).f0.f10,(rd_T32 x5_3 x12_3).f0.f11] (ji53)) 2)) ((rd_T32 x5_3 x12_3).f0.f2)), .int .i64 (putI (ji53) 3 (wrap64 (Int.tdiv (selI [(rd_T32 x5_3 x12_3).f0.f0,(rd_T32 x5_3 x12_3).f0.f1,(rd_T32 x5_3 x12_3).f0.f2,(rd_T32 x5_3 x12_3).f0.f3,(rd_T32 x5_3 x12_3).f0.f4,(rd_T32 x5_3 x12_3).f0.f5,(rd_T32 x5_3 x12_3).f0.f6,(rd_T32 x5_3 x12_3).f0.f7,(rd_T32 x5_3 x12_3).f0.f8,(rd_T32 x5_3 x12_3).f0.f9,(rd_T32 x5_3 x12_3).f0.f10,(rd_T32 x5_3 x12_3).f0.f11] (ji53)) 2)) ((rd_T32 x5_3 x12_3).f0.f3)), .int .i64 (putI (ji53) 4 (wrap64 (Int.tdiv (selI [(rd_T32 x5_3 x12_3).f0.f0,(rd_T32 x5_3 x12_3).f0.f1,(rd_T32 x5_3 x12_3).f0.f2,(rd_T32 x5_3 x12_3).f0.f3,(rd_T32 x5_3 x12_3).f0.f4,(rd_T32 x5_3 x12_3).f0.f5,(rd_T32 x5_3 x12_3).f0.f6,(rd_T32 x5_3 x12_3).f0.f7,(rd_T32 x5_3 x12_3).f0.f8,(rd_T32 x5_3 x12_3).f0.f9,(rd_T32 x5_3 x12_3).f0.f10,(rd_T32 x5_3 x12_3).f0.f11] (ji53)) 2)) ((rd_T32 x5_3 x12_3).f0.f4)), .int .i64 (putI (ji53) 5 (wrap64 (Int.tdiv (selI [(rd_T32 x5_3 x12_3).f0.f0,(rd_T32 x5_3 x12_3).f0.f1,(rd_T32 x5_3 x12_3).f0.f2,(rd_T32 x5_3 x12_3).f0.f3,(rd_T32 x5_3 x12_3).f0.f4,(rd_T32 x5_3 x12_3).f0.f5,(rd_T32 x5_3 x12_3).f0.f6,(rd_T32 x5_3 x12_3).f0.f7,(rd_T32 x5_3 x12_3).f0.f8,(rd_T32 x5_3 x12_3).f0.f9,(rd_T32 x5_3 x12_3).f0.f10,(rd_T32 x5_3 x12_3).f0.f11] (ji53)) 2)) ((rd_T32 x5_3 x12_3).f0.f5)), .int .i64 (putI (ji53) 6 (wrap64 (Int.tdiv (selI [(rd_T32 x5_3 x12_3).f0.f0,(rd_T32 x5_3 x12_3).f0.f1,(rd_T32 x5_3 x12_3).f0.f2,(rd_T32 x5_3 x12_3).f0.f3,(rd_T32 x5_3 x12_3).f0.f4,(rd_T32 x5_3 x12_3).f0.f5,(rd_T32 x5_3 x12_3).f0.f6,(rd_T32 x5_3 x12_3).f0.f7,(rd_T32 x5_3 x12_3).f0.f8,(rd_T32 x5_3 x12_3).f0.f9,(rd_T32 x5_3 x12_3).f0.f10,(rd_T32 x5_3 x12_3).f0.f11] (ji53)) 2)) ((rd_T32 x5_3 x12_3).f0.f6)), .int .i64 (putI (ji53) 7 (wrap64 (Int.tdiv (selI [(rd_T32 x5_3 x12_3).f0.f0,(rd_T32 x5_3 x12_3).f0.f1,(rd_T32 x5_3 x12_3).f0.f2,(rd_T32 x5_3 x12_3).f0.f3,(rd_T32 x5_3 x12_3).f0.f4,(rd_T32 x5_3 x12_3).f0.f5,(rd_T32 x5_3 x12_3).f0.f6,(rd_T32 x5_3 x12_3).f0.f7,(rd_T32 x5_3 x12_3).f0.f8,(rd_T32 x5_3 x12_3).f0.f9,(rd_T32 x5_3 x12_3).f0.f10,(rd_T32 x5_3 x12_3).f0.f11] (ji53)) 2)) ((rd_T32 x5_3 x12_3).f0.f7)), .int .i64 (putI (ji53) 8 (wrap64 (Int.tdiv (selI [(rd_T32 x5_3 x12_3).f0.f0,(rd_T32 x5_3 x12_3).f0.f1,(rd_T32 x5_3 x12_3).f0.f2,(rd_T32 x5_3 x12_3).f0.f3,(rd_T32 x5_3 x12_3).f0.f4,(rd_T32 x5_3 x12_3).f0.f5,(rd_T32 x5_3 x12_3).f0.f6,(rd_T32 x5_3 x12_3).f0.f7,(rd_T32 x5_3 x12_3).f0.f8,(rd_T32 x5_3 x12_3).f0.f9,(rd_T32 x5_3 x12_3).f0.f10,(rd_T32 x5_3 x12_3).f0.f11] (ji53)) 2)) ((rd_T32 x5_3 x12_3).f0.f8)), .int .i64 (putI (ji53) 9 (wrap64 (Int.tdiv (selI [(rd_T32 x5_3 x12_3).f0.f0,(rd_T32 x5_3 x12_3).f0.f1,(rd_T32 x5_3 x12_3).f0.f2,(rd_T32 x5_3 x12_3).f0.f3,(rd_T32 x5_3 x12_3).f0.f4,(rd_T32 x5_3 x12_3).f0.f5,(rd_T32 x5_3 x12_3).f0.f6,(rd_T32 x5_3 x12_3).f0.f7,(rd_T32 x5_3 x12_3).f0.f8,(rd_T32 x5_3 x12_3).f0.f9,(rd_T32 x5_3 x12_3).f0.f10,(rd_T32 x5_3 x12_3).f0.f11] (ji53)) 2)) ((rd_T32 x5_3 x12_3).f0.f9)), .int .i64 (putI (ji53) 10 (wrap64 (Int.tdiv (selI [(rd_T32 x5_3 x12_3).f0.f0,(rd_T32 x5_3 x12_3).f0.f1,(rd_T32 x5_3 x12_3).f0.f2,(rd_T32 x5_3 x12_3).f0.f3,(rd_T32 x5_3 x12_3).f0.f4,(rd_T32 x5_3 x12_3).f0.f5,(rd_T32 x5_3 x12_3).f0.f6,(rd_T32 x5_3 x12_3).f0.f7,(rd_T32 x5_3 x12_3).f0.f8,(rd_T32 x5_3 x12_3).f0.f9,(rd_T32 x5_3 x12_3).f0.f10,(rd_T32 x5_3 x12_3).f0.f11] (ji53)) 2)) ((rd_T32 x5_3 x12_3).f0.f10)), .int .i64 (putI (ji53) 11 (wrap64 (Int.tdiv (selI [(rd_T32 x5_3 x12_3).f0.f0,(rd_T32 x5_3 x12_3).f0.f1,(rd_T32 x5_3 x12_3).f0.f2,(rd_T32 x5_3 x12_3).f0.f3,(rd_T32 x5_3 x12_3).f0.f4,(rd_T32 x5_3 x12_3).f0.f5,(rd_T32 x5_3 x12_3).f0.f6,(rd_T32 x5_3 x12_3).f0.f7,(rd_T32 x5_3 x12_3).f0.f8,(rd_T32 x5_3 x12_3).f0.f9,(rd_T32 x5_3 x12_3).f0.f10,(rd_T32 x5_3 x12_3).f0.f11] (ji53)) 2)) ((rd_T32 x5_3 x12_3).f0.f11))] (fun k_ => some k_ ≠ (.slice (some ⟨go60,0,none⟩) x5_3.length co15 : Value).ownBlock ∧ k_ ≠ gb137 ∧ k_ ≠ gb158 ∧ k_ ≠ gb172) (fun _ => False) rfl (by first | (go_simp;done) | (go_simp;rfl)) ?aP (fun _ hk => hk.elim) ?aF ?aO ?aB ?aS ?aL ?_;(case aP => exact k32_mkM _ _ _ (⟨(⟨putI (ji53) 0 (wrap64 (Int.tdiv (selI [(rd_T32 x5_3 x12_3).f0.f0,(rd_T32 x5_3 x12_3).f0.f1,(rd_T32 x5_3 x12_3).f0.f2,(rd_T32 x5_3 x12_3).f0.f3,(rd_T32 x5_3 x12_3).f0.f4,(rd_T32 x5_3 x12_3).f0.f5,(rd_T32 x5_3 x12_3).f0.f6,(rd_T32 x5_3 x12_3).f0.f7,(rd_T32 x5_3 x12_3).f0.f8,(rd_T32 x5_3 x12_3).f0.f9,(rd_T32 x5_3 x12_3).f0.f10,(rd_T32 x5_3 x12_3).f0.f11] (ji53)) 2)) ((rd_T32 x5_3 x12_3).f0.f0),putI (ji53) 1 (wrap64 (Int.tdiv (selI [(rd_T32 x5_3 x12_3).f0.f0,(rd_T32 x5_3 x12_3).f0.f1,(rd_T32 x5_3 x12_3).f0.f2,(rd_T32 x5_3 x12_3).f0.f3,(rd_T32 x5_3 x12_3).f0.f4,(rd_T32 x5_3 x12_3).f0.f5,(rd_T32 x5_3 x12_3).f0.f6,(rd_T32 x5_3 x12_3).f0.f7,(rd_T32 x5_3 x12_3).f0.f8,(rd_T32 x5_3 x12_3).f0.f9,(rd_T32 x5_3 x12_3).f0.f10,(rd_T32 x5_3 x12_3).f0.f11] (ji53)) 2)) ((rd_T32 x5_3 x12_3).f0.f1),putI (ji53) 2 (wrap64 (Int.tdiv (selI [(rd_T32 x5_3 x12_3).f0.f0,(rd_T32 x5_3 x12_3).f0.f1,(rd_T32 x5_3 x12_3).f0.f2,(rd_T32 x5_3 x12_3).f0.f3,(rd_T32 x5_3 x12_3).f0.f4,(rd_T32 x5_3 x12_3).f0.f5,(rd_T32 x5_3 x12_3).f0.f6,(rd_T32 x5_3 x12_3).f0.f7,(rd_T32 x5_3 x12_3).f0.f8,(rd_T32 x5_3 x12_3).f0.f9,(rd_T32 x5_3 x12_3).f0.f10,(rd_T32 x5_3 x12_3).f0.f11] (ji53)) 2)) ((rd_T32 x5_3 x12_3).f0.f2),putI (ji53) 3 (wrap64 (Int.tdiv (selI [(rd_T32 x5_3 x12_3).f0.f0,(rd_T32 x5_3 x12_3).f0.f1,(rd_T32 x5_3 x12_3).f0.f2,(rd_T32 x5_3 x12_3).f0.f3,(rd_T32 x5_3 x12_3).f0.f4,(rd_T32 x5_3 x12_3).f0.f5,(rd_T32 x5_3 x12_3).f0.f6,(rd_T32 x5_3 x12_3).f0.f7,(rd_T32 x5_3 x12_3).f0.f8,(rd_T32 x5_3 x12_3).f0.f9,(rd_T32 x5_3 x12_3).f0.f10,(rd_T32 x5_3 x12_3).f0.f11] (ji53)) 2)) ((rd_T32 x5_3 x12_3).f0.f3),putI (ji53) 4 (wrap64 (Int.tdiv (selI [(rd_T32 x5_3 x12_3).f0.f0,(rd_T32 x5_3 x12_3).f0.f1,(rd_T32 x5_3 x12_3).f0.f2,(rd_T32 x5_3 x12_3).f0.f3,(rd_T32 x5_3 x12_3).f0.f4,(rd_T32 x5_3 x12_3).f0.f5,(rd_T32 x5_3 x12_3).f0.f6,(rd_T32 x5_3 x12_3).f0.f7,(rd_T32 x5_3 x12_3).f0.f8,(rd_T32 x5_3 x12_3).f0.f9,(rd_T32 x5_3 x12_3).f0.f10,(rd_T32 x5_3 x12_3).f0.f11] (ji53)) 2)) ((rd_T32 x5_3 x12_3).f0.f4),putI (ji53) 5 (wrap64 (Int.tdiv (selI [(rd_T32 x5_3 x12_3).f0.f0,(rd_T32 x5_3 x12_3).f0.f1,(rd_T32 x5_3 x12_3).f0.f2,(rd_T32 x5_3 x12_3).f0.f3,(rd_T32 x5_3 x12_3).f0.f4,(rd_T32 x5_3 x12_3).f0.f5,(rd_T32 x5_3 x12_3).f0.f6,(rd_T32 x5_3 x12_3).f0.f7,(rd_T32 x5_3 x12_3).f0.f8,(rd_T32 x5_3 x12_3).f0.f9,(rd_T32 x5_3 x12_3).f0.f10,(rd_T32 x5_3 x12_3).f0.f11] (ji53)) 2)) ((rd_T32 x5_3 x12_3).f0.f5),putI (ji53) 6 (wrap64 (Int.tdiv (selI [(rd_T32 x5_3 x12_3).f0.f0,(rd_T32 x5_3 x12_3).f0.f1,(rd_T32 x5_3 x12_3).f0.f2,(rd_T32 x5_3 x12_3).f0.f3,(rd_T32 x5_3 x12_3).f0.f4,(rd_T32 x5_3 x12_3).f0.f5,(rd_T32 x5_3 x12_3).f0.f6,(rd_T32 x5_3 x12_3).f0.f7,(rd_T32 x5_3 x12_3).f0.f8,(rd_T32 x5_3 x12_3).f0.f9,(rd_T32 x5_3 x12_3).f0.f10,(rd_T32 x5_3 x12_3).f0.f11] (ji53)) 2)) ((rd_T32 x5_3 x12_3).f0.f6),putI (ji53) 7 (wrap64 (Int.tdiv (selI [(rd_T32 x5_3 x12_3).f0.f0,(rd_T32 x5_3 x12_3).f0.f1,(rd_T32 x5_3 x12_3).f0.f2,(rd_T32 x5_3 x12_3).f0.f3,(rd_T32 x5_3 x12_3).f0.f4,(rd_T32 x5_3 x12_3).f0.f5,(rd_T32 x5_3 x12_3).f0.f6,(rd_T32 x5_3 x12_3).f0.f7,(rd_T32 x5_3 x12_3).f0.f8,(rd_T32 x5_3 x12_3).f0.f9,(rd_T32 x5_3 x12_3).f0.f10,(rd_T32 x5_3 x12_3).f0.f11] (ji53)) 2)) ((rd_T32 x5_3 x12_3).f0.f7),putI (ji53) 8 (wrap64 (Int.tdiv (selI [(rd_T32 x5_3 x12_3).f0.f0,(rd_T32 x5_3 x12_3).f0.f1,(rd_T32 x5_3 x12_3).f0.f2,(rd_T32 x5_3 x12_3).f0.f3,(rd_T32 x5_3 x12_3).f0.f4,(rd_T32 x5_3 x12_3).f0.f5,(rd_T32 x5_3 x12_3).f0.f6,(rd_T32 x5_3 x12_3).f0.f7,(rd_T32 x5_3 x12_3).f0.f8,(rd_T32 x5_3 x12_3).f0.f9,(rd_T32 x5_3 x12_3).f0.f10,(rd_T32 x5_3 x12_3).f0.f11] (ji53)) 2)) ((rd_T32 x5_3 x12_3).f0.f8),putI (ji53) 9 (wrap64 (Int.tdiv (selI [(rd_T32 x5_3 x12_3).f0.f0,(rd_T32 x5_3 x12_3).f0.f1,(rd_T32 x5_3 x12_3).f0.f2,(rd_T32 x5_3 x12_3).f0.f3,(rd_T32 x5_3 x12_3).f0.f4,(rd_T32 x5_3 x12_3).f0.f5,(rd_T32 x5_3 x12_3).f0.f6,(rd_T32 x5_3 x12_3).f0.f7,(rd_T32 x5_3 x12_3).f0.f8,(rd_T32 x5_3 x12_3).f0.f9,(rd_T32 x5_3 x12_3).f0.f10,(rd_T32 x5_3 x12_3).f0.f11] (ji53)) 2)) ((rd_T32 x5_3 x12_3).f0.f9),putI (ji53) 10 (wrap64 (Int.tdiv (selI [(rd_T32 x5_3 x12_3).f0.f0,(rd_T32 x5_3 x12_3).f0.f1,(rd_T32 x5_3 x12_3).f0.f2,(rd_T32 x5_3 x12_3).f0.f3,(rd_T32 x5_3 x12_3).f0.f4,(rd_T32 x5_3 x12_3).f0.f5,(rd_T32 x5_3 x12_3).f0.f6,(rd_T32 x5_3 x12_3).f0.f7,(rd_T32 x5_3 x12_3).f0.f8,(rd_T32 x5_3 x12_3).f0.f9,(rd_T32 x5_3 x12_3).f0.f10,(rd_T32 x5_3 x12_3).f0.f11] (ji53)) 2)) ((rd_T32 x5_3 x12_3).f0.f10),putI (ji53) 11 (wrap64 (Int.tdiv (selI [(rd_T32 x5_3 x12_3).f0.f0,(rd_T32 x5_3 x12_3).f0.f1,(rd_T32 x5_3 x12_3).f0.f2,(rd_T32 x5_3 x12_3).f0.f3,(rd_T32 x5_3 x12_3).f0.f4,(rd_T32 x5_3 x12_3).f0.f5,(rd_T32 x5_3 x12_3).f0.f6,(rd_T32 x5_3 x12_3).f0.f7,(rd_T32 x5_3 x12_3).f0.f8,(rd_T32 x5_3 x12_3).f0.f9,(rd_T32 x5_3 x12_3).f0.f10,(rd_T32 x5_3 x12_3).f0.f11] (ji53)) 2)) ((rd_T32 x5_3 x12_3).f0.f11)⟩ : S30)⟩ : S32));(case aB => exact (by repeat (first | (with_reducible first | exact HB.out | apply below_alloc | apply pw_below_drewN | apply below_drew1 | refine below_set ?_ GB60.out | refine below_set ?_ (Aside0.out (by assumption))) | exact HB.out)));(case aF => exact (fun k_ hk => ⟨Kd.fresh' (Kd.R_lt (by (with_reducible repeat (first | apply Kd.R_alloc | apply Kd.R_drewN | apply Kd.R_drew));exact HQ61.out)) k_ hk,Kd.freshB (g:=gb137) (o:=.cells #[.int .i64 x138000_3, .int .i64 x138001_3, .int .i64 x138002_3, .int .i64 x138003_3, .int .i64 x138004_3, .int .i64 x138005_3, .int .i64 x138006_3, .int .i64 x138007_3, .int .i64 x138008_3, .int .i64 x138009_3, .int .i64 x138010_3, .int .i64 x138011_3] 32 (0,0)) (by (with_reducible repeat (first | refine blk_drewN ?_ _ | refine blk_drew ?_ | refine blk_alloc ?_ _));refine blk_far ?_ (by have h_ := Kd.R_away HO_5.out (fun _ hk => hk.2.1);intro e_;exact h_ (by rw [e_];rfl)) _;(with_reducible repeat (first | refine blk_drewN ?_ _ | refine blk_drew ?_ | refine blk_alloc ?_ _));exact BK137.out) k_ hk,Kd.freshB (g:=gb158) (o:=.cells #[.int .i64 x159000_3, .int .i64 x159001_3, .int .i64 x159002_3, .int .i64 x159003_3, .int .i64 x159004_3, .int .i64 x159005_3, .int .i64 x159006_3, .int .i64 x159007_3, .int .i64 x159008_3, .int .i64 x159009_3, .int .i64 x159010_3, .int .i64 x159011_3] 32 (0,0)) (by (with_reducible repeat (first | refine blk_drewN ?_ _ | refine blk_drew ?_ | refine blk_alloc ?_ _));refine blk_far ?_ (by have h_ := Kd.R_away HO_5.out (fun _ hk => hk.2.2.1);intro e_;exact h_ (by rw [e_];rfl)) _;(with_reducible repeat (first | refine blk_drewN ?_ _ | refine blk_drew ?_ | refine blk_alloc ?_ _));exact BK158.out) k_ hk,Kd.freshB (g:=gb172) (o:=.cells #[.int .i64 x173000_3, .int .i64 x173001_3, .int .i64 x173002_3, .int .i64 x173003_3, .int .i64 x173004_3, .int .i64 x173005_3, .int .i64 x173006_3, .int .i64 x173007_3, .int .i64 x173008_3, .int .i64 x173009_3, .int .i64 x173010_3, .int .i64 x173011_3] 32 (0,0)) (by (with_reducible repeat (first | refine blk_drewN ?_ _ | refine blk_drew ?_ | refine blk_alloc ?_ _));refine blk_far ?_ (by have h_ := Kd.R_away HO_5.out (fun _ hk => hk.2.2.2);intro e_;exact h_ (by rw [e_];rfl)) _;(with_reducible repeat (first | refine blk_drewN ?_ _ | refine blk_drew ?_ | refine blk_alloc ?_ _));exact BK172.out) k_ hk⟩));(case aO => exact (by (with_reducible repeat (first | apply Kd.R_alloc | apply Kd.R_drewN | apply Kd.R_drew));exact Kd.R_mono (Kd.R_far (p:=⟨go60,(x12_3 : Int).toNat * 12 + ((ji53) : Int).toNat,none⟩) (Kd.R_mono HO_11.out (fun k_ hk => (⟨hk,fun e_ => hk.1 (by rw [e_];rfl)⟩ : _ ∧ k_ ≠ go60))) (fun _ hk => hk.2) (.int .i64 (wrap64 (Int.tdiv (selI [(rd_T32 x5_3 x12_3).f0.f0,(rd_T32 x5_3 x12_3).f0.f1,(rd_T32 x5_3 x12_3).f0.f2,(rd_T32 x5_3 x12_3).f0.f3,(rd_T32 x5_3 x12_3).f0.f4,(rd_T32 x5_3 x12_3).f0.f5,(rd_T32 x5_3 x12_3).f0.f6,(rd_T32 x5_3 x12_3).f0.f7,(rd_T32 x5_3 x12_3).f0.f8,(rd_T32 x5_3 x12_3).f0.f9,(rd_T32 x5_3 x12_3).f0.f10,(rd_T32 x5_3 x12_3).f0.f11] (ji53)) 2)))) (fun _ hk => ⟨hk.1.1,⟨hk.1.2.1,⟨hk.1.2.2.1,hk.1.2.2.2⟩⟩⟩)));(case aS => exact (below_size (by repeat (first | (with_reducible first | exact HB.out | apply below_alloc | apply pw_below_drewN | apply below_drew1 | refine below_set ?_ GB60.out | refine below_set ?_ (Aside0.out (by assumption))) | exact HB.out))));(case aL => have := LMc58.out;omega);intro v188 w62 ho hb hg hat;rw [← Ny187.out] at ho;have n0_ := Aside0.mk (Kd.R_after (ok:=(fun k_ => k_ ≠ gb137 ∧ k_ ≠ gb158 ∧ k_ ≠ gb172)) (by (with_reducible repeat (first | apply Kd.R_alloc | apply Kd.R_drewN | apply Kd.R_drew));exact Kd.R_mono HQ61.out (fun _ hk => ⟨⟨hk.2.1,⟨hk.2.2.1,hk.2.2.2⟩⟩,hk.1⟩)) hg hat);have n1_ := Aside0.mk (blk_grown (g:=gb137) (o:=.cells #[.int .i64 x138000_3, .int .i64 x138001_3, .int .i64 x138002_3, .int .i64 x138003_3, .int .i64 x138004_3, .int .i64 x138005_3, .int .i64 x138006_3, .int .i64 x138007_3, .int .i64 x138008_3, .int .i64 x138009_3, .int .i64 x138010_3, .int .i64 x138011_3] 32 (0,0)) (by (with_reducible repeat (first | refine blk_drewN ?_ _ | refine blk_drew ?_ | refine blk_alloc ?_ _));refine blk_far ?_ (by have h_ := Kd.R_away HO_5.out (fun _ hk => hk.2.1);intro e_;exact h_ (by rw [e_];rfl)) _;(with_reducible repeat (first | refine blk_drewN ?_ _ | refine blk_drew ?_ | refine blk_alloc ?_ _));exact BK137.out) hg (Kd.R_away HO_11.out (fun _ hk => hk.2.1)));have n2_ := Aside0.mk (blk_grown (g:=gb158) (o:=.cells #[.int .i64 x159000_3, .int .i64 x159001_3, .int .i64 x159002_3, .int .i64 x159003_3, .int .i64 x159004_3, .int .i64 x159005_3, .int .i64 x159006_3, .int .i64 x159007_3, .int .i64 x159008_3, .int .i64 x159009_3, .int .i64 x159010_3, .int .i64 x159011_3] 32 (0,0)) (by (with_reducible repeat (first | refine blk_drewN ?_ _ | refine blk_drew ?_ | refine blk_alloc ?_ _));refine blk_far ?_ (by have h_ := Kd.R_away HO_5.out (fun _ hk => hk.2.2.1);intro e_;exact h_ (by rw [e_];rfl)) _;(with_reducible repeat (first | refine blk_drewN ?_ _ | refine blk_drew ?_ | refine blk_alloc ?_ _));exact BK158.out) hg (Kd.R_away HO_11.out (fun _ hk => hk.2.2.1)));have n3_ := Aside0.mk (blk_grown (g:=gb172) (o:=.cells #[.int .i64 x173000_3, .int .i64 x173001_3, .int .i64 x173002_3, .int .i64 x173003_3, .int .i64 x173004_3, .int .i64 x173005_3, .int .i64 x173006_3, .int .i64 x173007_3, .int .i64 x173008_3, .int .i64 x173009_3, .int .i64 x173010_3, .int .i64 x173011_3] 32 (0,0)) (by (with_reducible repeat (first | refine blk_drewN ?_ _ | refine blk_drew ?_ | refine blk_alloc ?_ _));refine blk_far ?_ (by have h_ := Kd.R_away HO_5.out (fun _ hk => hk.2.2.2);intro e_;exact h_ (by rw [e_];rfl)) _;(with_reducible repeat (first | refine blk_drewN ?_ _ | refine blk_drew ?_ | refine blk_alloc ?_ _));exact BK172.out) hg (Kd.R_away HO_11.out (fun _ hk => hk.2.2.2)));have n4_ := Aside0.mk (hb);have n5_ := Aside0.mk (ho);clear HO_5;clear BK137;clear BK158;clear BK172;clear HB;clear HO_11;have HO_5 := n0_;have BK137 := n1_;have BK158 := n2_;have BK172 := n3_;have HB := n4_;have HO189 := n5_;clear n0_ n1_ n2_ n3_ n4_ n5_;clear ho hb hg hat))
                    (try simp only [← hl5_3])
                    go_roundg k3
                    case measure => have := HK1.out;have := HJ32.out;have := HK3.out;omega
                    case rel => exact ⟨(y185),(y187),(wrap64 (x12_3 + 1)),(x138000_3),(x138001_3),(x138002_3),(x138003_3),(x138004_3),(x138005_3),(x138006_3),(x138007_3),(x138008_3),(x138009_3),(x138010_3),(x138011_3),(x159000_3),(x159001_3),(x159002_3),(x159003_3),(x159004_3),(x159005_3),(x159006_3),(x159007_3),(x159008_3),(x159009_3),(x159010_3),(x159011_3),(x173000_3),(x173001_3),(x173002_3),(x173003_3),(x173004_3),(x173005_3),(x173006_3),(x173007_3),(x173008_3),(x173009_3),(x173010_3),(x173011_3),(by first | rfl | (simp;done) | (simp [*];done)),H',⟨by have := HK1.out;have := HJ32.out;have := HK3.out;omega⟩,⟨by (try simp only [hl5_3]);(with_reducible repeat (first | apply Kd.R_alloc | apply Kd.R_drewN | apply Kd.R_drew));exact Kd.R_mono HO_5.out (fun _ hk => ⟨hk.2,⟨hk.1.1,⟨hk.1.2.1,hk.1.2.2⟩⟩⟩)⟩,⟨by (try simp only [hl5_3]);(with_reducible repeat (first | apply Kd.R_alloc | apply Kd.R_drewN | apply Kd.R_drew));exact HO189.out⟩,⟨by (try simp only [hl5_3]);(with_reducible repeat (first | refine blk_drewN ?_ _ | refine blk_drew ?_ | refine blk_alloc ?_ _));exact BK137.out⟩,⟨by (try simp only [hl5_3]);(with_reducible repeat (first | refine blk_drewN ?_ _ | refine blk_drew ?_ | refine blk_alloc ?_ _));exact BK158.out⟩,⟨by (try simp only [hl5_3]);(with_reducible repeat (first | refine blk_drewN ?_ _ | refine blk_drew ?_ | refine blk_alloc ?_ _));exact BK172.out⟩,⟨by repeat (first | (with_reducible first | exact HB.out | apply below_alloc | apply pw_below_drewN | apply below_drew1 | refine below_set ?_ (Aside0.out (by assumption))) | exact HB.out)⟩⟩
                   ·
                    rw [if_neg c58] at H
                    exact absurd H (by simp)
                  ·
                   rw [if_neg c55] at H
                   exact absurd H (by simp)
                 ·
                  rw [if_neg c54] at H
                  exact absurd H (by simp)
                ·
                 rw [if_neg c52] at H
                 exact absurd H (by simp)
               ·
                rw [if_neg c51] at H
                exact absurd H (by simp)
              ·
               rw [if_neg c50] at H
               have c50b0 : decide (x12_3 < (l0.length : Int)) = false := decide_eq_false c50
               clear c50
               replace H := Option.bind_eq_some_iff.mp H
               obtain ⟨⟨t190,t191,t192,t193,t194,t195,t196,t197,t198,t199,t200,t201,t202⟩,A630,H⟩ := H
               replace H : ((arrearsref8_Total.f k3 x11_3).bind fun bt203 => ((arrearslaw8_same.f k3 t190 t191 t192 t193 t194 t195 t196 t197 t198 t199 t200 t201 bt203.1 bt203.2.1 bt203.2.2.1 bt203.2.2.2.1 bt203.2.2.2.2.1 bt203.2.2.2.2.2.1 bt203.2.2.2.2.2.2.1 bt203.2.2.2.2.2.2.2.1 bt203.2.2.2.2.2.2.2.2.1 bt203.2.2.2.2.2.2.2.2.2.1 bt203.2.2.2.2.2.2.2.2.2.2.1 bt203.2.2.2.2.2.2.2.2.2.2.2.1).bind fun t216 => (if t216 = true then (some (t202 == bt203.2.2.2.2.2.2.2.2.2.2.2.2)) else (none)))) = some r := H
               have A63 := Aside0.mk A630
               clear A630
               replace H := Option.bind_eq_some_iff.mp H
               obtain ⟨⟨t203,t204,t205,t206,t207,t208,t209,t210,t211,t212,t213,t214,t215⟩,A640,H⟩ := H
               replace H : ((arrearslaw8_same.f k3 t190 t191 t192 t193 t194 t195 t196 t197 t198 t199 t200 t201 t203 t204 t205 t206 t207 t208 t209 t210 t211 t212 t213 t214).bind fun t216 => (if t216 = true then (some (t202 == t215)) else (none))) = some r := H
               have A64 := Aside0.mk A640
               clear A640
               replace H := Option.bind_eq_some_iff.mp H
               obtain ⟨t216,A650,H⟩ := H
               replace H : (if t216 = true then (some (t202 == t215)) else (none)) = some r := H
               have A65 := Aside0.mk A650
               clear A650
               by_cases c66 : t216 = true
               ·
                subst c66
                have H1 : (some (t202 == t215)) = some r := by rw [if_pos rfl] at H;exact H
                clear H
                have H := H1
                clear H1
                obtain rfl := Option.some.inj H
                go_wp2_with (first | ((with_reducible refine gate_callee (f:=14) rfl ?_);refine goesL_ (some 103) rfl rfl Try.func14 (by kernel_rfl) rfl #[.slice Ao15 x5_3.length co15] rfl (by (try simp only [List.map_toArray,List.map_cons,List.map_nil]);first | done | rfl | (simp only [List.length_drop,List.length_take];rfl)) ?_;(with_reducible refine (ledger_Total.calls k3 _ _ x5_3 t190 t191 t192 t193 t194 t195 t196 t197 t198 t199 t200 t201 t202 _ ?side1 ?side2 A63.out).mono ?_);(case side1 => repeat (first | exact (Kd.R_reads' HO_5.out).2.2 | (with_reducible refine Kd.C_alloc ?_ _) | (with_reducible refine Kd.C_drewN ?_ _) | (with_reducible refine Kd.C_drew ?_)));(case side2 => exact (Kd.R_reads' HO_5.out).2.1);rintro e w67 ⟨rfl,hb⟩;refine ⟨_,rfl,?_⟩;have n0_ := Aside0.mk (Kd.R_below (by (with_reducible repeat (first | apply Kd.R_alloc | apply Kd.R_drewN | apply Kd.R_drew));exact HO_5.out) hb);have n1_ := Aside0.mk (Kd.R_below (by (with_reducible repeat (first | apply Kd.R_alloc | apply Kd.R_drewN | apply Kd.R_drew));exact HO_11.out) hb);have n2_ := Aside0.mk (blk_below (g:=gb137) (o:=.cells #[.int .i64 x138000_3, .int .i64 x138001_3, .int .i64 x138002_3, .int .i64 x138003_3, .int .i64 x138004_3, .int .i64 x138005_3, .int .i64 x138006_3, .int .i64 x138007_3, .int .i64 x138008_3, .int .i64 x138009_3, .int .i64 x138010_3, .int .i64 x138011_3] 32 (0,0)) (by (with_reducible repeat (first | refine blk_drewN ?_ _ | refine blk_drew ?_ | refine blk_alloc ?_ _));exact BK137.out) hb);have n3_ := Aside0.mk (blk_below (g:=gb158) (o:=.cells #[.int .i64 x159000_3, .int .i64 x159001_3, .int .i64 x159002_3, .int .i64 x159003_3, .int .i64 x159004_3, .int .i64 x159005_3, .int .i64 x159006_3, .int .i64 x159007_3, .int .i64 x159008_3, .int .i64 x159009_3, .int .i64 x159010_3, .int .i64 x159011_3] 32 (0,0)) (by (with_reducible repeat (first | refine blk_drewN ?_ _ | refine blk_drew ?_ | refine blk_alloc ?_ _));exact BK158.out) hb);have n4_ := Aside0.mk (blk_below (g:=gb172) (o:=.cells #[.int .i64 x173000_3, .int .i64 x173001_3, .int .i64 x173002_3, .int .i64 x173003_3, .int .i64 x173004_3, .int .i64 x173005_3, .int .i64 x173006_3, .int .i64 x173007_3, .int .i64 x173008_3, .int .i64 x173009_3, .int .i64 x173010_3, .int .i64 x173011_3] 32 (0,0)) (by (with_reducible repeat (first | refine blk_drewN ?_ _ | refine blk_drew ?_ | refine blk_alloc ?_ _));exact BK172.out) hb);have n5_ := Aside0.mk (below_step (by repeat (first | (with_reducible first | exact HB.out | apply below_alloc | apply pw_below_drewN | apply below_drew1 | refine below_set ?_ (Aside0.out (by assumption))) | exact HB.out)) hb);clear HO_5;clear HO_11;clear BK137;clear BK158;clear BK172;clear HB;have HO_5 := n0_;have HO_11 := n1_;have BK137 := n2_;have BK158 := n3_;have BK172 := n4_;have HB := n5_;clear n0_ n1_ n2_ n3_ n4_ n5_;(try clear hb);(try clear hb2);(try clear hk);(try clear hi);have hnb68 := NB158_137.out;have hnc68 := NB137_158.out;have hnb69 := NB158_172.out;have hnc69 := NB172_158.out;have hcz70_0 : w67.cell? ⟨gb158,0,none⟩ = some (.int .i64 x159000_3) := (blk_cell BK158.out 0).trans rfl;have hcz70_1 : w67.cell? ⟨gb158,1,none⟩ = some (.int .i64 x159001_3) := (blk_cell BK158.out 1).trans rfl;have hcz70_2 : w67.cell? ⟨gb158,2,none⟩ = some (.int .i64 x159002_3) := (blk_cell BK158.out 2).trans rfl;have hcz70_3 : w67.cell? ⟨gb158,3,none⟩ = some (.int .i64 x159003_3) := (blk_cell BK158.out 3).trans rfl;have hcz70_4 : w67.cell? ⟨gb158,4,none⟩ = some (.int .i64 x159004_3) := (blk_cell BK158.out 4).trans rfl;have hcz70_5 : w67.cell? ⟨gb158,5,none⟩ = some (.int .i64 x159005_3) := (blk_cell BK158.out 5).trans rfl;have hcz70_6 : w67.cell? ⟨gb158,6,none⟩ = some (.int .i64 x159006_3) := (blk_cell BK158.out 6).trans rfl;have hcz70_7 : w67.cell? ⟨gb158,7,none⟩ = some (.int .i64 x159007_3) := (blk_cell BK158.out 7).trans rfl;have hcz70_8 : w67.cell? ⟨gb158,8,none⟩ = some (.int .i64 x159008_3) := (blk_cell BK158.out 8).trans rfl;have hcz70_9 : w67.cell? ⟨gb158,9,none⟩ = some (.int .i64 x159009_3) := (blk_cell BK158.out 9).trans rfl;have hcz70_10 : w67.cell? ⟨gb158,10,none⟩ = some (.int .i64 x159010_3) := (blk_cell BK158.out 10).trans rfl;have hcz70_11 : w67.cell? ⟨gb158,11,none⟩ = some (.int .i64 x159011_3) := (blk_cell BK158.out 11).trans rfl;have hfz70_0 := blk_frozen BK158.out 0;have hfz70_1 := blk_frozen BK158.out 1;have hfz70_2 := blk_frozen BK158.out 2;have hfz70_3 := blk_frozen BK158.out 3;have hfz70_4 := blk_frozen BK158.out 4;have hfz70_5 := blk_frozen BK158.out 5;have hfz70_6 := blk_frozen BK158.out 6;have hfz70_7 := blk_frozen BK158.out 7;have hfz70_8 := blk_frozen BK158.out 8;have hfz70_9 := blk_frozen BK158.out 9;have hfz70_10 := blk_frozen BK158.out 10;have hfz70_11 := blk_frozen BK158.out 11) | ((with_reducible refine gate_store (t:=32) (p:=6) rfl ?_);refine store_event (t:=32) (p:=6) (v:=?vo_w71) (w1:=((((((((((((w67.setCell ⟨gb158,0,none⟩ (.int .i64 t190)).setCell ⟨gb158,1,none⟩ (.int .i64 t191)).setCell ⟨gb158,2,none⟩ (.int .i64 t192)).setCell ⟨gb158,3,none⟩ (.int .i64 t193)).setCell ⟨gb158,4,none⟩ (.int .i64 t194)).setCell ⟨gb158,5,none⟩ (.int .i64 t195)).setCell ⟨gb158,6,none⟩ (.int .i64 t196)).setCell ⟨gb158,7,none⟩ (.int .i64 t197)).setCell ⟨gb158,8,none⟩ (.int .i64 t198)).setCell ⟨gb158,9,none⟩ (.int .i64 t199)).setCell ⟨gb158,10,none⟩ (.int .i64 t200)).setCell ⟨gb158,11,none⟩ (.int .i64 t201))) ?hg ?ho ?hn ?hr ?_;(case ho => rfl);(case hg => rfl);(case hn => rfl);(case hr => first | (go_simp;done) | (go_simp;rfl));intro w71 hw;have n0_ : Aside0 (Kd.R k32 32 w71 w.heap.size (fun k_ => some k_ ≠ (u11 : Value).ownBlock ∧ k_ ≠ gb137 ∧ k_ ≠ gb158 ∧ k_ ≠ gb172) (.slice Ao15 x5_3.length co15) x5_3) := ⟨(by rw [hw];exact (by (with_reducible repeat (first | apply Kd.R_alloc | apply Kd.R_drewN | apply Kd.R_drew));exact Kd.R_mono (Kd.R_far (p:=⟨gb158,11,none⟩) (Kd.R_far (p:=⟨gb158,10,none⟩) (Kd.R_far (p:=⟨gb158,9,none⟩) (Kd.R_far (p:=⟨gb158,8,none⟩) (Kd.R_far (p:=⟨gb158,7,none⟩) (Kd.R_far (p:=⟨gb158,6,none⟩) (Kd.R_far (p:=⟨gb158,5,none⟩) (Kd.R_far (p:=⟨gb158,4,none⟩) (Kd.R_far (p:=⟨gb158,3,none⟩) (Kd.R_far (p:=⟨gb158,2,none⟩) (Kd.R_far (p:=⟨gb158,1,none⟩) (Kd.R_far (p:=⟨gb158,0,none⟩) (Kd.R_mono HO_5.out (fun k_ hk => (⟨hk,hk.2.2.1⟩ : _ ∧ k_ ≠ gb158))) (fun _ hk => hk.2) (.int .i64 t190)) (fun _ hk => hk.2) (.int .i64 t191)) (fun _ hk => hk.2) (.int .i64 t192)) (fun _ hk => hk.2) (.int .i64 t193)) (fun _ hk => hk.2) (.int .i64 t194)) (fun _ hk => hk.2) (.int .i64 t195)) (fun _ hk => hk.2) (.int .i64 t196)) (fun _ hk => hk.2) (.int .i64 t197)) (fun _ hk => hk.2) (.int .i64 t198)) (fun _ hk => hk.2) (.int .i64 t199)) (fun _ hk => hk.2) (.int .i64 t200)) (fun _ hk => hk.2) (.int .i64 t201)) (fun _ hk => ⟨hk.1.1,⟨hk.1.2.1,⟨hk.1.2.2.1,hk.1.2.2.2⟩⟩⟩)))⟩;have n1_ : Aside0 (Kd.R k32 32 w71 w.heap.size (fun k_ => some k_ ≠ (.slice Ao15 x5_3.length co15 : Value).ownBlock ∧ k_ ≠ gb137 ∧ k_ ≠ gb158 ∧ k_ ≠ gb172) u11 x11_3) := ⟨(by rw [hw];exact (by (with_reducible repeat (first | apply Kd.R_alloc | apply Kd.R_drewN | apply Kd.R_drew));exact Kd.R_mono (Kd.R_far (p:=⟨gb158,11,none⟩) (Kd.R_far (p:=⟨gb158,10,none⟩) (Kd.R_far (p:=⟨gb158,9,none⟩) (Kd.R_far (p:=⟨gb158,8,none⟩) (Kd.R_far (p:=⟨gb158,7,none⟩) (Kd.R_far (p:=⟨gb158,6,none⟩) (Kd.R_far (p:=⟨gb158,5,none⟩) (Kd.R_far (p:=⟨gb158,4,none⟩) (Kd.R_far (p:=⟨gb158,3,none⟩) (Kd.R_far (p:=⟨gb158,2,none⟩) (Kd.R_far (p:=⟨gb158,1,none⟩) (Kd.R_far (p:=⟨gb158,0,none⟩) (Kd.R_mono HO_11.out (fun k_ hk => (⟨hk,hk.2.2.1⟩ : _ ∧ k_ ≠ gb158))) (fun _ hk => hk.2) (.int .i64 t190)) (fun _ hk => hk.2) (.int .i64 t191)) (fun _ hk => hk.2) (.int .i64 t192)) (fun _ hk => hk.2) (.int .i64 t193)) (fun _ hk => hk.2) (.int .i64 t194)) (fun _ hk => hk.2) (.int .i64 t195)) (fun _ hk => hk.2) (.int .i64 t196)) (fun _ hk => hk.2) (.int .i64 t197)) (fun _ hk => hk.2) (.int .i64 t198)) (fun _ hk => hk.2) (.int .i64 t199)) (fun _ hk => hk.2) (.int .i64 t200)) (fun _ hk => hk.2) (.int .i64 t201)) (fun _ hk => ⟨hk.1.1,⟨hk.1.2.1,⟨hk.1.2.2.1,hk.1.2.2.2⟩⟩⟩)))⟩;have n2_ : Aside0 (w71.heap[gb137]? = some (.cells #[.int .i64 x138000_3, .int .i64 x138001_3, .int .i64 x138002_3, .int .i64 x138003_3, .int .i64 x138004_3, .int .i64 x138005_3, .int .i64 x138006_3, .int .i64 x138007_3, .int .i64 x138008_3, .int .i64 x138009_3, .int .i64 x138010_3, .int .i64 x138011_3] 32 (0,0))) := ⟨(by rw [hw];exact (by (with_reducible repeat (first | refine blk_drewN ?_ _ | refine blk_drew ?_ | refine blk_alloc ?_ _));refine blk_far ?_ NB137_158.out _;(with_reducible repeat (first | refine blk_drewN ?_ _ | refine blk_drew ?_ | refine blk_alloc ?_ _));refine blk_far ?_ NB137_158.out _;(with_reducible repeat (first | refine blk_drewN ?_ _ | refine blk_drew ?_ | refine blk_alloc ?_ _));refine blk_far ?_ NB137_158.out _;(with_reducible repeat (first | refine blk_drewN ?_ _ | refine blk_drew ?_ | refine blk_alloc ?_ _));refine blk_far ?_ NB137_158.out _;(with_reducible repeat (first | refine blk_drewN ?_ _ | refine blk_drew ?_ | refine blk_alloc ?_ _));refine blk_far ?_ NB137_158.out _;(with_reducible repeat (first | refine blk_drewN ?_ _ | refine blk_drew ?_ | refine blk_alloc ?_ _));refine blk_far ?_ NB137_158.out _;(with_reducible repeat (first | refine blk_drewN ?_ _ | refine blk_drew ?_ | refine blk_alloc ?_ _));refine blk_far ?_ NB137_158.out _;(with_reducible repeat (first | refine blk_drewN ?_ _ | refine blk_drew ?_ | refine blk_alloc ?_ _));refine blk_far ?_ NB137_158.out _;(with_reducible repeat (first | refine blk_drewN ?_ _ | refine blk_drew ?_ | refine blk_alloc ?_ _));refine blk_far ?_ NB137_158.out _;(with_reducible repeat (first | refine blk_drewN ?_ _ | refine blk_drew ?_ | refine blk_alloc ?_ _));refine blk_far ?_ NB137_158.out _;(with_reducible repeat (first | refine blk_drewN ?_ _ | refine blk_drew ?_ | refine blk_alloc ?_ _));refine blk_far ?_ NB137_158.out _;(with_reducible repeat (first | refine blk_drewN ?_ _ | refine blk_drew ?_ | refine blk_alloc ?_ _));refine blk_far ?_ NB137_158.out _;(with_reducible repeat (first | refine blk_drewN ?_ _ | refine blk_drew ?_ | refine blk_alloc ?_ _));exact BK137.out))⟩;have n3_ : Aside0 (w71.heap[gb158]? = some (.cells #[.int .i64 t190, .int .i64 t191, .int .i64 t192, .int .i64 t193, .int .i64 t194, .int .i64 t195, .int .i64 t196, .int .i64 t197, .int .i64 t198, .int .i64 t199, .int .i64 t200, .int .i64 t201] 32 (0,0))) := ⟨(by rw [hw];exact (by (with_reducible repeat (first | refine blk_drewN ?_ _ | refine blk_drew ?_ | refine blk_alloc ?_ _));refine blk_put (cs:=#[.int .i64 t190, .int .i64 t191, .int .i64 t192, .int .i64 t193, .int .i64 t194, .int .i64 t195, .int .i64 t196, .int .i64 t197, .int .i64 t198, .int .i64 t199, .int .i64 t200, .int .i64 x159011_3]) ?_ 11 _ rfl;(with_reducible repeat (first | refine blk_drewN ?_ _ | refine blk_drew ?_ | refine blk_alloc ?_ _));refine blk_put (cs:=#[.int .i64 t190, .int .i64 t191, .int .i64 t192, .int .i64 t193, .int .i64 t194, .int .i64 t195, .int .i64 t196, .int .i64 t197, .int .i64 t198, .int .i64 t199, .int .i64 x159010_3, .int .i64 x159011_3]) ?_ 10 _ rfl;(with_reducible repeat (first | refine blk_drewN ?_ _ | refine blk_drew ?_ | refine blk_alloc ?_ _));refine blk_put (cs:=#[.int .i64 t190, .int .i64 t191, .int .i64 t192, .int .i64 t193, .int .i64 t194, .int .i64 t195, .int .i64 t196, .int .i64 t197, .int .i64 t198, .int .i64 x159009_3, .int .i64 x159010_3, .int .i64 x159011_3]) ?_ 9 _ rfl;(with_reducible repeat (first | refine blk_drewN ?_ _ | refine blk_drew ?_ | refine blk_alloc ?_ _));refine blk_put (cs:=#[.int .i64 t190, .int .i64 t191, .int .i64 t192, .int .i64 t193, .int .i64 t194, .int .i64 t195, .int .i64 t196, .int .i64 t197, .int .i64 x159008_3, .int .i64 x159009_3, .int .i64 x159010_3, .int .i64 x159011_3]) ?_ 8 _ rfl;(with_reducible repeat (first | refine blk_drewN ?_ _ | refine blk_drew ?_ | refine blk_alloc ?_ _));refine blk_put (cs:=#[.int .i64 t190, .int .i64 t191, .int .i64 t192, .int .i64 t193, .int .i64 t194, .int .i64 t195, .int .i64 t196, .int .i64 x159007_3, .int .i64 x159008_3, .int .i64 x159009_3, .int .i64 x159010_3, .int .i64 x159011_3]) ?_ 7 _ rfl;(with_reducible repeat (first | refine blk_drewN ?_ _ | refine blk_drew ?_ | refine blk_alloc ?_ _));refine blk_put (cs:=#[.int .i64 t190, .int .i64 t191, .int .i64 t192, .int .i64 t193, .int .i64 t194, .int .i64 t195, .int .i64 x159006_3, .int .i64 x159007_3, .int .i64 x159008_3, .int .i64 x159009_3, .int .i64 x159010_3, .int .i64 x159011_3]) ?_ 6 _ rfl;(with_reducible repeat (first | refine blk_drewN ?_ _ | refine blk_drew ?_ | refine blk_alloc ?_ _));refine blk_put (cs:=#[.int .i64 t190, .int .i64 t191, .int .i64 t192, .int .i64 t193, .int .i64 t194, .int .i64 x159005_3, .int .i64 x159006_3, .int .i64 x159007_3, .int .i64 x159008_3, .int .i64 x159009_3, .int .i64 x159010_3, .int .i64 x159011_3]) ?_ 5 _ rfl;(with_reducible repeat (first | refine blk_drewN ?_ _ | refine blk_drew ?_ | refine blk_alloc ?_ _));refine blk_put (cs:=#[.int .i64 t190, .int .i64 t191, .int .i64 t192, .int .i64 t193, .int .i64 x159004_3, .int .i64 x159005_3, .int .i64 x159006_3, .int .i64 x159007_3, .int .i64 x159008_3, .int .i64 x159009_3, .int .i64 x159010_3, .int .i64 x159011_3]) ?_ 4 _ rfl;(with_reducible repeat (first | refine blk_drewN ?_ _ | refine blk_drew ?_ | refine blk_alloc ?_ _));refine blk_put (cs:=#[.int .i64 t190, .int .i64 t191, .int .i64 t192, .int .i64 x159003_3, .int .i64 x159004_3, .int .i64 x159005_3, .int .i64 x159006_3, .int .i64 x159007_3, .int .i64 x159008_3, .int .i64 x159009_3, .int .i64 x159010_3, .int .i64 x159011_3]) ?_ 3 _ rfl;(with_reducible repeat (first | refine blk_drewN ?_ _ | refine blk_drew ?_ | refine blk_alloc ?_ _));refine blk_put (cs:=#[.int .i64 t190, .int .i64 t191, .int .i64 x159002_3, .int .i64 x159003_3, .int .i64 x159004_3, .int .i64 x159005_3, .int .i64 x159006_3, .int .i64 x159007_3, .int .i64 x159008_3, .int .i64 x159009_3, .int .i64 x159010_3, .int .i64 x159011_3]) ?_ 2 _ rfl;(with_reducible repeat (first | refine blk_drewN ?_ _ | refine blk_drew ?_ | refine blk_alloc ?_ _));refine blk_put (cs:=#[.int .i64 t190, .int .i64 x159001_3, .int .i64 x159002_3, .int .i64 x159003_3, .int .i64 x159004_3, .int .i64 x159005_3, .int .i64 x159006_3, .int .i64 x159007_3, .int .i64 x159008_3, .int .i64 x159009_3, .int .i64 x159010_3, .int .i64 x159011_3]) ?_ 1 _ rfl;(with_reducible repeat (first | refine blk_drewN ?_ _ | refine blk_drew ?_ | refine blk_alloc ?_ _));refine blk_put (cs:=#[.int .i64 x159000_3, .int .i64 x159001_3, .int .i64 x159002_3, .int .i64 x159003_3, .int .i64 x159004_3, .int .i64 x159005_3, .int .i64 x159006_3, .int .i64 x159007_3, .int .i64 x159008_3, .int .i64 x159009_3, .int .i64 x159010_3, .int .i64 x159011_3]) ?_ 0 _ rfl;(with_reducible repeat (first | refine blk_drewN ?_ _ | refine blk_drew ?_ | refine blk_alloc ?_ _));exact BK158.out))⟩;have n4_ : Aside0 (w71.heap[gb172]? = some (.cells #[.int .i64 x173000_3, .int .i64 x173001_3, .int .i64 x173002_3, .int .i64 x173003_3, .int .i64 x173004_3, .int .i64 x173005_3, .int .i64 x173006_3, .int .i64 x173007_3, .int .i64 x173008_3, .int .i64 x173009_3, .int .i64 x173010_3, .int .i64 x173011_3] 32 (0,0))) := ⟨(by rw [hw];exact (by (with_reducible repeat (first | refine blk_drewN ?_ _ | refine blk_drew ?_ | refine blk_alloc ?_ _));refine blk_far ?_ NB172_158.out _;(with_reducible repeat (first | refine blk_drewN ?_ _ | refine blk_drew ?_ | refine blk_alloc ?_ _));refine blk_far ?_ NB172_158.out _;(with_reducible repeat (first | refine blk_drewN ?_ _ | refine blk_drew ?_ | refine blk_alloc ?_ _));refine blk_far ?_ NB172_158.out _;(with_reducible repeat (first | refine blk_drewN ?_ _ | refine blk_drew ?_ | refine blk_alloc ?_ _));refine blk_far ?_ NB172_158.out _;(with_reducible repeat (first | refine blk_drewN ?_ _ | refine blk_drew ?_ | refine blk_alloc ?_ _));refine blk_far ?_ NB172_158.out _;(with_reducible repeat (first | refine blk_drewN ?_ _ | refine blk_drew ?_ | refine blk_alloc ?_ _));refine blk_far ?_ NB172_158.out _;(with_reducible repeat (first | refine blk_drewN ?_ _ | refine blk_drew ?_ | refine blk_alloc ?_ _));refine blk_far ?_ NB172_158.out _;(with_reducible repeat (first | refine blk_drewN ?_ _ | refine blk_drew ?_ | refine blk_alloc ?_ _));refine blk_far ?_ NB172_158.out _;(with_reducible repeat (first | refine blk_drewN ?_ _ | refine blk_drew ?_ | refine blk_alloc ?_ _));refine blk_far ?_ NB172_158.out _;(with_reducible repeat (first | refine blk_drewN ?_ _ | refine blk_drew ?_ | refine blk_alloc ?_ _));refine blk_far ?_ NB172_158.out _;(with_reducible repeat (first | refine blk_drewN ?_ _ | refine blk_drew ?_ | refine blk_alloc ?_ _));refine blk_far ?_ NB172_158.out _;(with_reducible repeat (first | refine blk_drewN ?_ _ | refine blk_drew ?_ | refine blk_alloc ?_ _));refine blk_far ?_ NB172_158.out _;(with_reducible repeat (first | refine blk_drewN ?_ _ | refine blk_drew ?_ | refine blk_alloc ?_ _));exact BK172.out))⟩;have n5_ : Aside0 (Below w.heap.size w w71) := ⟨(by rw [hw];exact (by repeat (first | (with_reducible first | exact HB.out | apply below_alloc | apply pw_below_drewN | apply below_drew1 | refine below_set ?_ (Aside0.out (by assumption))) | exact HB.out)))⟩;clear hw;clear HO_5;clear HO_11;clear BK137;clear BK158;clear BK172;clear HB;have HO_5 := n0_;have HO_11 := n1_;have BK137 := n2_;have BK158 := n3_;have BK172 := n4_;have HB := n5_;clear n0_ n1_ n2_ n3_ n4_ n5_;obtain ⟨Ao72,co72,eo72⟩ := Kd.R_slice HO_11.out;subst eo72) | ((with_reducible refine gate_callee (f:=15) rfl ?_);refine goesL_ (some 108) rfl rfl Try.func15 (by kernel_rfl) rfl #[.slice Ao72 x11_3.length co72] rfl (by (try simp only [List.map_toArray,List.map_cons,List.map_nil]);first | done | rfl | (simp only [List.length_drop,List.length_take];rfl)) ?_;(with_reducible refine (arrearsref8_Total.calls k3 _ _ x11_3 t203 t204 t205 t206 t207 t208 t209 t210 t211 t212 t213 t214 t215 _ ?side1 ?side2 A64.out).mono ?_);(case side1 => repeat (first | exact (Kd.R_reads' HO_11.out).2.2 | (with_reducible refine Kd.C_alloc ?_ _) | (with_reducible refine Kd.C_drewN ?_ _) | (with_reducible refine Kd.C_drew ?_)));(case side2 => exact (Kd.R_reads' HO_11.out).2.1);rintro e w73 ⟨rfl,hb⟩;refine ⟨_,rfl,?_⟩;have n0_ := Aside0.mk (Kd.R_below (by (with_reducible repeat (first | apply Kd.R_alloc | apply Kd.R_drewN | apply Kd.R_drew));exact HO_5.out) hb);have n1_ := Aside0.mk (Kd.R_below (by (with_reducible repeat (first | apply Kd.R_alloc | apply Kd.R_drewN | apply Kd.R_drew));exact HO_11.out) hb);have n2_ := Aside0.mk (blk_below (g:=gb137) (o:=.cells #[.int .i64 x138000_3, .int .i64 x138001_3, .int .i64 x138002_3, .int .i64 x138003_3, .int .i64 x138004_3, .int .i64 x138005_3, .int .i64 x138006_3, .int .i64 x138007_3, .int .i64 x138008_3, .int .i64 x138009_3, .int .i64 x138010_3, .int .i64 x138011_3] 32 (0,0)) (by (with_reducible repeat (first | refine blk_drewN ?_ _ | refine blk_drew ?_ | refine blk_alloc ?_ _));exact BK137.out) hb);have n3_ := Aside0.mk (blk_below (g:=gb158) (o:=.cells #[.int .i64 t190, .int .i64 t191, .int .i64 t192, .int .i64 t193, .int .i64 t194, .int .i64 t195, .int .i64 t196, .int .i64 t197, .int .i64 t198, .int .i64 t199, .int .i64 t200, .int .i64 t201] 32 (0,0)) (by (with_reducible repeat (first | refine blk_drewN ?_ _ | refine blk_drew ?_ | refine blk_alloc ?_ _));exact BK158.out) hb);have n4_ := Aside0.mk (blk_below (g:=gb172) (o:=.cells #[.int .i64 x173000_3, .int .i64 x173001_3, .int .i64 x173002_3, .int .i64 x173003_3, .int .i64 x173004_3, .int .i64 x173005_3, .int .i64 x173006_3, .int .i64 x173007_3, .int .i64 x173008_3, .int .i64 x173009_3, .int .i64 x173010_3, .int .i64 x173011_3] 32 (0,0)) (by (with_reducible repeat (first | refine blk_drewN ?_ _ | refine blk_drew ?_ | refine blk_alloc ?_ _));exact BK172.out) hb);have n5_ := Aside0.mk (below_step (by repeat (first | (with_reducible first | exact HB.out | apply below_alloc | apply pw_below_drewN | apply below_drew1 | refine below_set ?_ (Aside0.out (by assumption))) | exact HB.out)) hb);clear HO_5;clear HO_11;clear BK137;clear BK158;clear BK172;clear HB;have HO_5 := n0_;have HO_11 := n1_;have BK137 := n2_;have BK158 := n3_;have BK172 := n4_;have HB := n5_;clear n0_ n1_ n2_ n3_ n4_ n5_;(try clear hb);(try clear hb2);(try clear hk);(try clear hi);have hnb74 := NB172_137.out;have hnc74 := NB137_172.out;have hcz75_0 : w73.cell? ⟨gb172,0,none⟩ = some (.int .i64 x173000_3) := (blk_cell BK172.out 0).trans rfl;have hcz75_1 : w73.cell? ⟨gb172,1,none⟩ = some (.int .i64 x173001_3) := (blk_cell BK172.out 1).trans rfl;have hcz75_2 : w73.cell? ⟨gb172,2,none⟩ = some (.int .i64 x173002_3) := (blk_cell BK172.out 2).trans rfl;have hcz75_3 : w73.cell? ⟨gb172,3,none⟩ = some (.int .i64 x173003_3) := (blk_cell BK172.out 3).trans rfl;have hcz75_4 : w73.cell? ⟨gb172,4,none⟩ = some (.int .i64 x173004_3) := (blk_cell BK172.out 4).trans rfl;have hcz75_5 : w73.cell? ⟨gb172,5,none⟩ = some (.int .i64 x173005_3) := (blk_cell BK172.out 5).trans rfl;have hcz75_6 : w73.cell? ⟨gb172,6,none⟩ = some (.int .i64 x173006_3) := (blk_cell BK172.out 6).trans rfl;have hcz75_7 : w73.cell? ⟨gb172,7,none⟩ = some (.int .i64 x173007_3) := (blk_cell BK172.out 7).trans rfl;have hcz75_8 : w73.cell? ⟨gb172,8,none⟩ = some (.int .i64 x173008_3) := (blk_cell BK172.out 8).trans rfl;have hcz75_9 : w73.cell? ⟨gb172,9,none⟩ = some (.int .i64 x173009_3) := (blk_cell BK172.out 9).trans rfl;have hcz75_10 : w73.cell? ⟨gb172,10,none⟩ = some (.int .i64 x173010_3) := (blk_cell BK172.out 10).trans rfl;have hcz75_11 : w73.cell? ⟨gb172,11,none⟩ = some (.int .i64 x173011_3) := (blk_cell BK172.out 11).trans rfl;have hfz75_0 := blk_frozen BK172.out 0;have hfz75_1 := blk_frozen BK172.out 1;have hfz75_2 := blk_frozen BK172.out 2;have hfz75_3 := blk_frozen BK172.out 3;have hfz75_4 := blk_frozen BK172.out 4;have hfz75_5 := blk_frozen BK172.out 5;have hfz75_6 := blk_frozen BK172.out 6;have hfz75_7 := blk_frozen BK172.out 7;have hfz75_8 := blk_frozen BK172.out 8;have hfz75_9 := blk_frozen BK172.out 9;have hfz75_10 := blk_frozen BK172.out 10;have hfz75_11 := blk_frozen BK172.out 11) | ((with_reducible refine gate_store (t:=32) (p:=8) rfl ?_);refine store_event (t:=32) (p:=8) (v:=?vo_w76) (w1:=((((((((((((w73.setCell ⟨gb172,0,none⟩ (.int .i64 t203)).setCell ⟨gb172,1,none⟩ (.int .i64 t204)).setCell ⟨gb172,2,none⟩ (.int .i64 t205)).setCell ⟨gb172,3,none⟩ (.int .i64 t206)).setCell ⟨gb172,4,none⟩ (.int .i64 t207)).setCell ⟨gb172,5,none⟩ (.int .i64 t208)).setCell ⟨gb172,6,none⟩ (.int .i64 t209)).setCell ⟨gb172,7,none⟩ (.int .i64 t210)).setCell ⟨gb172,8,none⟩ (.int .i64 t211)).setCell ⟨gb172,9,none⟩ (.int .i64 t212)).setCell ⟨gb172,10,none⟩ (.int .i64 t213)).setCell ⟨gb172,11,none⟩ (.int .i64 t214))) ?hg ?ho ?hn ?hr ?_;(case ho => rfl);(case hg => rfl);(case hn => rfl);(case hr => first | (go_simp;done) | (go_simp;rfl));intro w76 hw;have n0_ : Aside0 (Kd.R k32 32 w76 w.heap.size (fun k_ => some k_ ≠ (.slice Ao72 x11_3.length co72 : Value).ownBlock ∧ k_ ≠ gb137 ∧ k_ ≠ gb158 ∧ k_ ≠ gb172) (.slice Ao15 x5_3.length co15) x5_3) := ⟨(by rw [hw];exact (by (with_reducible repeat (first | apply Kd.R_alloc | apply Kd.R_drewN | apply Kd.R_drew));exact Kd.R_mono (Kd.R_far (p:=⟨gb172,11,none⟩) (Kd.R_far (p:=⟨gb172,10,none⟩) (Kd.R_far (p:=⟨gb172,9,none⟩) (Kd.R_far (p:=⟨gb172,8,none⟩) (Kd.R_far (p:=⟨gb172,7,none⟩) (Kd.R_far (p:=⟨gb172,6,none⟩) (Kd.R_far (p:=⟨gb172,5,none⟩) (Kd.R_far (p:=⟨gb172,4,none⟩) (Kd.R_far (p:=⟨gb172,3,none⟩) (Kd.R_far (p:=⟨gb172,2,none⟩) (Kd.R_far (p:=⟨gb172,1,none⟩) (Kd.R_far (p:=⟨gb172,0,none⟩) (Kd.R_mono HO_5.out (fun k_ hk => (⟨hk,hk.2.2.2⟩ : _ ∧ k_ ≠ gb172))) (fun _ hk => hk.2) (.int .i64 t203)) (fun _ hk => hk.2) (.int .i64 t204)) (fun _ hk => hk.2) (.int .i64 t205)) (fun _ hk => hk.2) (.int .i64 t206)) (fun _ hk => hk.2) (.int .i64 t207)) (fun _ hk => hk.2) (.int .i64 t208)) (fun _ hk => hk.2) (.int .i64 t209)) (fun _ hk => hk.2) (.int .i64 t210)) (fun _ hk => hk.2) (.int .i64 t211)) (fun _ hk => hk.2) (.int .i64 t212)) (fun _ hk => hk.2) (.int .i64 t213)) (fun _ hk => hk.2) (.int .i64 t214)) (fun _ hk => ⟨hk.1.1,⟨hk.1.2.1,⟨hk.1.2.2.1,hk.1.2.2.2⟩⟩⟩)))⟩;have n1_ : Aside0 (Kd.R k32 32 w76 w.heap.size (fun k_ => some k_ ≠ (.slice Ao15 x5_3.length co15 : Value).ownBlock ∧ k_ ≠ gb137 ∧ k_ ≠ gb158 ∧ k_ ≠ gb172) (.slice Ao72 x11_3.length co72) x11_3) := ⟨(by rw [hw];exact (by (with_reducible repeat (first | apply Kd.R_alloc | apply Kd.R_drewN | apply Kd.R_drew));exact Kd.R_mono (Kd.R_far (p:=⟨gb172,11,none⟩) (Kd.R_far (p:=⟨gb172,10,none⟩) (Kd.R_far (p:=⟨gb172,9,none⟩) (Kd.R_far (p:=⟨gb172,8,none⟩) (Kd.R_far (p:=⟨gb172,7,none⟩) (Kd.R_far (p:=⟨gb172,6,none⟩) (Kd.R_far (p:=⟨gb172,5,none⟩) (Kd.R_far (p:=⟨gb172,4,none⟩) (Kd.R_far (p:=⟨gb172,3,none⟩) (Kd.R_far (p:=⟨gb172,2,none⟩) (Kd.R_far (p:=⟨gb172,1,none⟩) (Kd.R_far (p:=⟨gb172,0,none⟩) (Kd.R_mono HO_11.out (fun k_ hk => (⟨hk,hk.2.2.2⟩ : _ ∧ k_ ≠ gb172))) (fun _ hk => hk.2) (.int .i64 t203)) (fun _ hk => hk.2) (.int .i64 t204)) (fun _ hk => hk.2) (.int .i64 t205)) (fun _ hk => hk.2) (.int .i64 t206)) (fun _ hk => hk.2) (.int .i64 t207)) (fun _ hk => hk.2) (.int .i64 t208)) (fun _ hk => hk.2) (.int .i64 t209)) (fun _ hk => hk.2) (.int .i64 t210)) (fun _ hk => hk.2) (.int .i64 t211)) (fun _ hk => hk.2) (.int .i64 t212)) (fun _ hk => hk.2) (.int .i64 t213)) (fun _ hk => hk.2) (.int .i64 t214)) (fun _ hk => ⟨hk.1.1,⟨hk.1.2.1,⟨hk.1.2.2.1,hk.1.2.2.2⟩⟩⟩)))⟩;have n2_ : Aside0 (w76.heap[gb137]? = some (.cells #[.int .i64 x138000_3, .int .i64 x138001_3, .int .i64 x138002_3, .int .i64 x138003_3, .int .i64 x138004_3, .int .i64 x138005_3, .int .i64 x138006_3, .int .i64 x138007_3, .int .i64 x138008_3, .int .i64 x138009_3, .int .i64 x138010_3, .int .i64 x138011_3] 32 (0,0))) := ⟨(by rw [hw];exact (by (with_reducible repeat (first | refine blk_drewN ?_ _ | refine blk_drew ?_ | refine blk_alloc ?_ _));refine blk_far ?_ NB137_172.out _;(with_reducible repeat (first | refine blk_drewN ?_ _ | refine blk_drew ?_ | refine blk_alloc ?_ _));refine blk_far ?_ NB137_172.out _;(with_reducible repeat (first | refine blk_drewN ?_ _ | refine blk_drew ?_ | refine blk_alloc ?_ _));refine blk_far ?_ NB137_172.out _;(with_reducible repeat (first | refine blk_drewN ?_ _ | refine blk_drew ?_ | refine blk_alloc ?_ _));refine blk_far ?_ NB137_172.out _;(with_reducible repeat (first | refine blk_drewN ?_ _ | refine blk_drew ?_ | refine blk_alloc ?_ _));refine blk_far ?_ NB137_172.out _;(with_reducible repeat (first | refine blk_drewN ?_ _ | refine blk_drew ?_ | refine blk_alloc ?_ _));refine blk_far ?_ NB137_172.out _;(with_reducible repeat (first | refine blk_drewN ?_ _ | refine blk_drew ?_ | refine blk_alloc ?_ _));refine blk_far ?_ NB137_172.out _;(with_reducible repeat (first | refine blk_drewN ?_ _ | refine blk_drew ?_ | refine blk_alloc ?_ _));refine blk_far ?_ NB137_172.out _;(with_reducible repeat (first | refine blk_drewN ?_ _ | refine blk_drew ?_ | refine blk_alloc ?_ _));refine blk_far ?_ NB137_172.out _;(with_reducible repeat (first | refine blk_drewN ?_ _ | refine blk_drew ?_ | refine blk_alloc ?_ _));refine blk_far ?_ NB137_172.out _;(with_reducible repeat (first | refine blk_drewN ?_ _ | refine blk_drew ?_ | refine blk_alloc ?_ _));refine blk_far ?_ NB137_172.out _;(with_reducible repeat (first | refine blk_drewN ?_ _ | refine blk_drew ?_ | refine blk_alloc ?_ _));refine blk_far ?_ NB137_172.out _;(with_reducible repeat (first | refine blk_drewN ?_ _ | refine blk_drew ?_ | refine blk_alloc ?_ _));exact BK137.out))⟩;have n3_ : Aside0 (w76.heap[gb158]? = some (.cells #[.int .i64 t190, .int .i64 t191, .int .i64 t192, .int .i64 t193, .int .i64 t194, .int .i64 t195, .int .i64 t196, .int .i64 t197, .int .i64 t198, .int .i64 t199, .int .i64 t200, .int .i64 t201] 32 (0,0))) := ⟨(by rw [hw];exact (by (with_reducible repeat (first | refine blk_drewN ?_ _ | refine blk_drew ?_ | refine blk_alloc ?_ _));refine blk_far ?_ NB158_172.out _;(with_reducible repeat (first | refine blk_drewN ?_ _ | refine blk_drew ?_ | refine blk_alloc ?_ _));refine blk_far ?_ NB158_172.out _;(with_reducible repeat (first | refine blk_drewN ?_ _ | refine blk_drew ?_ | refine blk_alloc ?_ _));refine blk_far ?_ NB158_172.out _;(with_reducible repeat (first | refine blk_drewN ?_ _ | refine blk_drew ?_ | refine blk_alloc ?_ _));refine blk_far ?_ NB158_172.out _;(with_reducible repeat (first | refine blk_drewN ?_ _ | refine blk_drew ?_ | refine blk_alloc ?_ _));refine blk_far ?_ NB158_172.out _;(with_reducible repeat (first | refine blk_drewN ?_ _ | refine blk_drew ?_ | refine blk_alloc ?_ _));refine blk_far ?_ NB158_172.out _;(with_reducible repeat (first | refine blk_drewN ?_ _ | refine blk_drew ?_ | refine blk_alloc ?_ _));refine blk_far ?_ NB158_172.out _;(with_reducible repeat (first | refine blk_drewN ?_ _ | refine blk_drew ?_ | refine blk_alloc ?_ _));refine blk_far ?_ NB158_172.out _;(with_reducible repeat (first | refine blk_drewN ?_ _ | refine blk_drew ?_ | refine blk_alloc ?_ _));refine blk_far ?_ NB158_172.out _;(with_reducible repeat (first | refine blk_drewN ?_ _ | refine blk_drew ?_ | refine blk_alloc ?_ _));refine blk_far ?_ NB158_172.out _;(with_reducible repeat (first | refine blk_drewN ?_ _ | refine blk_drew ?_ | refine blk_alloc ?_ _));refine blk_far ?_ NB158_172.out _;(with_reducible repeat (first | refine blk_drewN ?_ _ | refine blk_drew ?_ | refine blk_alloc ?_ _));refine blk_far ?_ NB158_172.out _;(with_reducible repeat (first | refine blk_drewN ?_ _ | refine blk_drew ?_ | refine blk_alloc ?_ _));exact BK158.out))⟩;have n4_ : Aside0 (w76.heap[gb172]? = some (.cells #[.int .i64 t203, .int .i64 t204, .int .i64 t205, .int .i64 t206, .int .i64 t207, .int .i64 t208, .int .i64 t209, .int .i64 t210, .int .i64 t211, .int .i64 t212, .int .i64 t213, .int .i64 t214] 32 (0,0))) := ⟨(by rw [hw];exact (by (with_reducible repeat (first | refine blk_drewN ?_ _ | refine blk_drew ?_ | refine blk_alloc ?_ _));refine blk_put (cs:=#[.int .i64 t203, .int .i64 t204, .int .i64 t205, .int .i64 t206, .int .i64 t207, .int .i64 t208, .int .i64 t209, .int .i64 t210, .int .i64 t211, .int .i64 t212, .int .i64 t213, .int .i64 x173011_3]) ?_ 11 _ rfl;(with_reducible repeat (first | refine blk_drewN ?_ _ | refine blk_drew ?_ | refine blk_alloc ?_ _));refine blk_put (cs:=#[.int .i64 t203, .int .i64 t204, .int .i64 t205, .int .i64 t206, .int .i64 t207, .int .i64 t208, .int .i64 t209, .int .i64 t210, .int .i64 t211, .int .i64 t212, .int .i64 x173010_3, .int .i64 x173011_3]) ?_ 10 _ rfl;(with_reducible repeat (first | refine blk_drewN ?_ _ | refine blk_drew ?_ | refine blk_alloc ?_ _));refine blk_put (cs:=#[.int .i64 t203, .int .i64 t204, .int .i64 t205, .int .i64 t206, .int .i64 t207, .int .i64 t208, .int .i64 t209, .int .i64 t210, .int .i64 t211, .int .i64 x173009_3, .int .i64 x173010_3, .int .i64 x173011_3]) ?_ 9 _ rfl;(with_reducible repeat (first | refine blk_drewN ?_ _ | refine blk_drew ?_ | refine blk_alloc ?_ _));refine blk_put (cs:=#[.int .i64 t203, .int .i64 t204, .int .i64 t205, .int .i64 t206, .int .i64 t207, .int .i64 t208, .int .i64 t209, .int .i64 t210, .int .i64 x173008_3, .int .i64 x173009_3, .int .i64 x173010_3, .int .i64 x173011_3]) ?_ 8 _ rfl;(with_reducible repeat (first | refine blk_drewN ?_ _ | refine blk_drew ?_ | refine blk_alloc ?_ _));refine blk_put (cs:=#[.int .i64 t203, .int .i64 t204, .int .i64 t205, .int .i64 t206, .int .i64 t207, .int .i64 t208, .int .i64 t209, .int .i64 x173007_3, .int .i64 x173008_3, .int .i64 x173009_3, .int .i64 x173010_3, .int .i64 x173011_3]) ?_ 7 _ rfl;(with_reducible repeat (first | refine blk_drewN ?_ _ | refine blk_drew ?_ | refine blk_alloc ?_ _));refine blk_put (cs:=#[.int .i64 t203, .int .i64 t204, .int .i64 t205, .int .i64 t206, .int .i64 t207, .int .i64 t208, .int .i64 x173006_3, .int .i64 x173007_3, .int .i64 x173008_3, .int .i64 x173009_3, .int .i64 x173010_3, .int .i64 x173011_3]) ?_ 6 _ rfl;(with_reducible repeat (first | refine blk_drewN ?_ _ | refine blk_drew ?_ | refine blk_alloc ?_ _));refine blk_put (cs:=#[.int .i64 t203, .int .i64 t204, .int .i64 t205, .int .i64 t206, .int .i64 t207, .int .i64 x173005_3, .int .i64 x173006_3, .int .i64 x173007_3, .int .i64 x173008_3, .int .i64 x173009_3, .int .i64 x173010_3, .int .i64 x173011_3]) ?_ 5 _ rfl;(with_reducible repeat (first | refine blk_drewN ?_ _ | refine blk_drew ?_ | refine blk_alloc ?_ _));refine blk_put (cs:=#[.int .i64 t203, .int .i64 t204, .int .i64 t205, .int .i64 t206, .int .i64 x173004_3, .int .i64 x173005_3, .int .i64 x173006_3, .int .i64 x173007_3, .int .i64 x173008_3, .int .i64 x173009_3, .int .i64 x173010_3, .int .i64 x173011_3]) ?_ 4 _ rfl;(with_reducible repeat (first | refine blk_drewN ?_ _ | refine blk_drew ?_ | refine blk_alloc ?_ _));refine blk_put (cs:=#[.int .i64 t203, .int .i64 t204, .int .i64 t205, .int .i64 x173003_3, .int .i64 x173004_3, .int .i64 x173005_3, .int .i64 x173006_3, .int .i64 x173007_3, .int .i64 x173008_3, .int .i64 x173009_3, .int .i64 x173010_3, .int .i64 x173011_3]) ?_ 3 _ rfl;(with_reducible repeat (first | refine blk_drewN ?_ _ | refine blk_drew ?_ | refine blk_alloc ?_ _));refine blk_put (cs:=#[.int .i64 t203, .int .i64 t204, .int .i64 x173002_3, .int .i64 x173003_3, .int .i64 x173004_3, .int .i64 x173005_3, .int .i64 x173006_3, .int .i64 x173007_3, .int .i64 x173008_3, .int .i64 x173009_3, .int .i64 x173010_3, .int .i64 x173011_3]) ?_ 2 _ rfl;(with_reducible repeat (first | refine blk_drewN ?_ _ | refine blk_drew ?_ | refine blk_alloc ?_ _));refine blk_put (cs:=#[.int .i64 t203, .int .i64 x173001_3, .int .i64 x173002_3, .int .i64 x173003_3, .int .i64 x173004_3, .int .i64 x173005_3, .int .i64 x173006_3, .int .i64 x173007_3, .int .i64 x173008_3, .int .i64 x173009_3, .int .i64 x173010_3, .int .i64 x173011_3]) ?_ 1 _ rfl;(with_reducible repeat (first | refine blk_drewN ?_ _ | refine blk_drew ?_ | refine blk_alloc ?_ _));refine blk_put (cs:=#[.int .i64 x173000_3, .int .i64 x173001_3, .int .i64 x173002_3, .int .i64 x173003_3, .int .i64 x173004_3, .int .i64 x173005_3, .int .i64 x173006_3, .int .i64 x173007_3, .int .i64 x173008_3, .int .i64 x173009_3, .int .i64 x173010_3, .int .i64 x173011_3]) ?_ 0 _ rfl;(with_reducible repeat (first | refine blk_drewN ?_ _ | refine blk_drew ?_ | refine blk_alloc ?_ _));exact BK172.out))⟩;have n5_ : Aside0 (Below w.heap.size w w76) := ⟨(by rw [hw];exact (by repeat (first | (with_reducible first | exact HB.out | apply below_alloc | apply pw_below_drewN | apply below_drew1 | refine below_set ?_ (Aside0.out (by assumption))) | exact HB.out)))⟩;clear hw;clear HO_5;clear HO_11;clear BK137;clear BK158;clear BK172;clear HB;have HO_5 := n0_;have HO_11 := n1_;have BK137 := n2_;have BK158 := n3_;have BK172 := n4_;have HB := n5_;clear n0_ n1_ n2_ n3_ n4_ n5_;have hcz77_0 : w76.cell? ⟨gb158,0,none⟩ = some (.int .i64 t190) := (blk_cell BK158.out 0).trans rfl;have hcz77_1 : w76.cell? ⟨gb158,1,none⟩ = some (.int .i64 t191) := (blk_cell BK158.out 1).trans rfl;have hcz77_2 : w76.cell? ⟨gb158,2,none⟩ = some (.int .i64 t192) := (blk_cell BK158.out 2).trans rfl;have hcz77_3 : w76.cell? ⟨gb158,3,none⟩ = some (.int .i64 t193) := (blk_cell BK158.out 3).trans rfl;have hcz77_4 : w76.cell? ⟨gb158,4,none⟩ = some (.int .i64 t194) := (blk_cell BK158.out 4).trans rfl;have hcz77_5 : w76.cell? ⟨gb158,5,none⟩ = some (.int .i64 t195) := (blk_cell BK158.out 5).trans rfl;have hcz77_6 : w76.cell? ⟨gb158,6,none⟩ = some (.int .i64 t196) := (blk_cell BK158.out 6).trans rfl;have hcz77_7 : w76.cell? ⟨gb158,7,none⟩ = some (.int .i64 t197) := (blk_cell BK158.out 7).trans rfl;have hcz77_8 : w76.cell? ⟨gb158,8,none⟩ = some (.int .i64 t198) := (blk_cell BK158.out 8).trans rfl;have hcz77_9 : w76.cell? ⟨gb158,9,none⟩ = some (.int .i64 t199) := (blk_cell BK158.out 9).trans rfl;have hcz77_10 : w76.cell? ⟨gb158,10,none⟩ = some (.int .i64 t200) := (blk_cell BK158.out 10).trans rfl;have hcz77_11 : w76.cell? ⟨gb158,11,none⟩ = some (.int .i64 t201) := (blk_cell BK158.out 11).trans rfl;have hfz77_0 := blk_frozen BK158.out 0;have hfz77_1 := blk_frozen BK158.out 1;have hfz77_2 := blk_frozen BK158.out 2;have hfz77_3 := blk_frozen BK158.out 3;have hfz77_4 := blk_frozen BK158.out 4;have hfz77_5 := blk_frozen BK158.out 5;have hfz77_6 := blk_frozen BK158.out 6;have hfz77_7 := blk_frozen BK158.out 7;have hfz77_8 := blk_frozen BK158.out 8;have hfz77_9 := blk_frozen BK158.out 9;have hfz77_10 := blk_frozen BK158.out 10;have hfz77_11 := blk_frozen BK158.out 11;have hcz78_0 : w76.cell? ⟨gb172,0,none⟩ = some (.int .i64 t203) := (blk_cell BK172.out 0).trans rfl;have hcz78_1 : w76.cell? ⟨gb172,1,none⟩ = some (.int .i64 t204) := (blk_cell BK172.out 1).trans rfl;have hcz78_2 : w76.cell? ⟨gb172,2,none⟩ = some (.int .i64 t205) := (blk_cell BK172.out 2).trans rfl;have hcz78_3 : w76.cell? ⟨gb172,3,none⟩ = some (.int .i64 t206) := (blk_cell BK172.out 3).trans rfl;have hcz78_4 : w76.cell? ⟨gb172,4,none⟩ = some (.int .i64 t207) := (blk_cell BK172.out 4).trans rfl;have hcz78_5 : w76.cell? ⟨gb172,5,none⟩ = some (.int .i64 t208) := (blk_cell BK172.out 5).trans rfl;have hcz78_6 : w76.cell? ⟨gb172,6,none⟩ = some (.int .i64 t209) := (blk_cell BK172.out 6).trans rfl;have hcz78_7 : w76.cell? ⟨gb172,7,none⟩ = some (.int .i64 t210) := (blk_cell BK172.out 7).trans rfl;have hcz78_8 : w76.cell? ⟨gb172,8,none⟩ = some (.int .i64 t211) := (blk_cell BK172.out 8).trans rfl;have hcz78_9 : w76.cell? ⟨gb172,9,none⟩ = some (.int .i64 t212) := (blk_cell BK172.out 9).trans rfl;have hcz78_10 : w76.cell? ⟨gb172,10,none⟩ = some (.int .i64 t213) := (blk_cell BK172.out 10).trans rfl;have hcz78_11 : w76.cell? ⟨gb172,11,none⟩ = some (.int .i64 t214) := (blk_cell BK172.out 11).trans rfl;have hfz78_0 := blk_frozen BK172.out 0;have hfz78_1 := blk_frozen BK172.out 1;have hfz78_2 := blk_frozen BK172.out 2;have hfz78_3 := blk_frozen BK172.out 3;have hfz78_4 := blk_frozen BK172.out 4;have hfz78_5 := blk_frozen BK172.out 5;have hfz78_6 := blk_frozen BK172.out 6;have hfz78_7 := blk_frozen BK172.out 7;have hfz78_8 := blk_frozen BK172.out 8;have hfz78_9 := blk_frozen BK172.out 9;have hfz78_10 := blk_frozen BK172.out 10;have hfz78_11 := blk_frozen BK172.out 11) | ((with_reducible refine gate_callee (f:=16) rfl ?_);refine goesL_ (some 113) rfl rfl Try.func16 (by kernel_rfl) rfl #[.agg #[.int .i64 t190, .int .i64 t191, .int .i64 t192, .int .i64 t193, .int .i64 t194, .int .i64 t195, .int .i64 t196, .int .i64 t197, .int .i64 t198, .int .i64 t199, .int .i64 t200, .int .i64 t201], .agg #[.int .i64 t203, .int .i64 t204, .int .i64 t205, .int .i64 t206, .int .i64 t207, .int .i64 t208, .int .i64 t209, .int .i64 t210, .int .i64 t211, .int .i64 t212, .int .i64 t213, .int .i64 t214]] rfl (by (try simp only [List.map_toArray,List.map_cons,List.map_nil]);first | done | rfl | (simp only [List.length_drop,List.length_take];rfl)) ?_;(with_reducible refine (arrearslaw8_same.calls k3 t190 t191 t192 t193 t194 t195 t196 t197 t198 t199 t200 t201 t203 t204 t205 t206 t207 t208 t209 t210 t211 t212 t213 t214 true _ A65.out).mono ?_);rintro e w79 ⟨rfl,hb⟩;refine ⟨_,rfl,?_⟩;have n0_ := Aside0.mk (Kd.R_below (by (with_reducible repeat (first | apply Kd.R_alloc | apply Kd.R_drewN | apply Kd.R_drew));exact HO_5.out) hb);have n1_ := Aside0.mk (Kd.R_below (by (with_reducible repeat (first | apply Kd.R_alloc | apply Kd.R_drewN | apply Kd.R_drew));exact HO_11.out) hb);have n2_ := Aside0.mk (blk_below (g:=gb137) (o:=.cells #[.int .i64 x138000_3, .int .i64 x138001_3, .int .i64 x138002_3, .int .i64 x138003_3, .int .i64 x138004_3, .int .i64 x138005_3, .int .i64 x138006_3, .int .i64 x138007_3, .int .i64 x138008_3, .int .i64 x138009_3, .int .i64 x138010_3, .int .i64 x138011_3] 32 (0,0)) (by (with_reducible repeat (first | refine blk_drewN ?_ _ | refine blk_drew ?_ | refine blk_alloc ?_ _));exact BK137.out) hb);have n3_ := Aside0.mk (blk_below (g:=gb158) (o:=.cells #[.int .i64 t190, .int .i64 t191, .int .i64 t192, .int .i64 t193, .int .i64 t194, .int .i64 t195, .int .i64 t196, .int .i64 t197, .int .i64 t198, .int .i64 t199, .int .i64 t200, .int .i64 t201] 32 (0,0)) (by (with_reducible repeat (first | refine blk_drewN ?_ _ | refine blk_drew ?_ | refine blk_alloc ?_ _));exact BK158.out) hb);have n4_ := Aside0.mk (blk_below (g:=gb172) (o:=.cells #[.int .i64 t203, .int .i64 t204, .int .i64 t205, .int .i64 t206, .int .i64 t207, .int .i64 t208, .int .i64 t209, .int .i64 t210, .int .i64 t211, .int .i64 t212, .int .i64 t213, .int .i64 t214] 32 (0,0)) (by (with_reducible repeat (first | refine blk_drewN ?_ _ | refine blk_drew ?_ | refine blk_alloc ?_ _));exact BK172.out) hb);have n5_ := Aside0.mk (below_step (by repeat (first | (with_reducible first | exact HB.out | apply below_alloc | apply pw_below_drewN | apply below_drew1 | refine below_set ?_ (Aside0.out (by assumption))) | exact HB.out)) hb);clear HO_5;clear HO_11;clear BK137;clear BK158;clear BK172;clear HB;have HO_5 := n0_;have HO_11 := n1_;have BK137 := n2_;have BK158 := n3_;have BK172 := n4_;have HB := n5_;clear n0_ n1_ n2_ n3_ n4_ n5_;(try clear hb);(try clear hb2);(try clear hk);(try clear hi)))
                go_ret
                exact ⟨by first | rfl | (simp [errW_none,errW_some] <;> rfl) | (simp [*,errW_none,errW_some] <;> rfl),by repeat (first | (with_reducible first | exact HB.out | apply below_alloc | apply pw_below_drewN | apply below_drew1 | refine below_set ?_ (Aside0.out (by assumption))) | exact HB.out)⟩
               ·
                replace c66 := Bool.eq_false_iff.mpr c66
                subst c66
                have H1 : (none) = some r := by rw [if_neg (show ¬ (false = true) by decide)] at H;exact H
                clear H
                have H := H1
                clear H1
                exact absurd H (by simp)
           ·
            rw [if_neg c48] at H
            exact absurd H (by simp)
    ·
     rw [if_neg c5] at H
     exact absurd H (by simp)
   ·
    rw [if_neg c4] at H
    exact absurd H (by simp)
  ·
   rw [if_neg c3] at H
   exact absurd H (by simp)
 ·
  rw [if_neg c2] at H
  exact absurd H (by simp)

end Go.Proofs.Ytmppfpdaglkhkaa.Z
