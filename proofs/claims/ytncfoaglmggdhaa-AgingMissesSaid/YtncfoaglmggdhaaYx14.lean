import Derived.Test.YtncfoaglmggdhaaYx0
import Derived.Test.YtncfoaglmggdhaaYx2
import Derived.Test.YtncfoaglmggdhaaYx3
import Derived.Test.YtncfoaglmggdhaaYx6
import Derived.Test.YtncfoaglmggdhaaYx7
import Derived.Test.YtncfoaglmggdhaaYx8
import Derived.Test.YtncfoaglmggdhaaYx13
namespace Go.Proofs.Ytncfoaglmggdhaa.Y
open Go.RowKit Go.Proofs.YtncfoaglmggdhaaW.PrintWords Go.Proofs.YtncfoaglmggdhaaW.PrintLast Go.Proofs.YtncfoaglmggdhaaW.PrintMore
attribute [local go_sem] max2_int min2_int max_two min_two max_three min_three max_four min_four   -- for this text's walks alone
set_option linter.unusedVariables false
set_option linter.unusedSimpArgs false

/-- A state of type 24 at block g of W; what its slices lead to came in by w0. -/
def IsS24 (w0 W : World) (g : Nat) (f0 : Int) (f1 : Int) : Prop := W.heap[g]? = some (.cells #[.int .i64 f0, .int .i64 f1] 24 (0,0)) ∧ w0.heap.size ≤ g
theorem IsS24.grown {w0 W : World} {g : Nat} {f0 : Int} {f1 : Int} {W1 : World} {row : Option Nat} (h : IsS24 w0 W g f0 f1) (hw : W.grownBy W1 row) (hne : some g ≠ row) : IsS24 w0 W1 g f0 f1 := by
 obtain ⟨hb,hg⟩ := h
 exact ⟨blk_grown hb hw hne,hg⟩
theorem IsS24.own_neN {w0 W : World} {g : Nat} {f0 : Int} {f1 : Int} {α : Type} {d : Kd α} {e : Nat} {base : Nat} {ok : Nat → Prop} {v : Value} {xs : List α} (h : IsS24 w0 W g f0 f1) (ho : Kd.N d e W base ok v xs) (ht : e ≠ 24) : some g ≠ v.ownBlock := by
 obtain ⟨hb,hg⟩ := h
 exact Kd.N_ne ho hb ht
theorem IsS24.fresh {w0 W : World} {g : Nat} {f0 : Int} {f1 : Int} (h : IsS24 w0 W g f0 f1) : ∀ k,W.heap.size ≤ k → k ≠ g := by
 obtain ⟨hb,hg⟩ := h
 exact Kd.freshB hb
theorem IsS24.kept {w0 W : World} {g : Nat} {f0 : Int} {f1 : Int} {W1 : World} {S : Nat → Prop} (h : IsS24 w0 W g f0 f1) (hk : Kept W W1 S) (hne : ¬ S g) : IsS24 w0 W1 g f0 f1 := by
 obtain ⟨hb,hg⟩ := h
 exact ⟨blk_kept hb hk hne,hg⟩
theorem IsS24.below {w0 W : World} {g : Nat} {f0 : Int} {f1 : Int} {W1 : World} (h : IsS24 w0 W g f0 f1) (hw : Below W.heap.size W W1) : IsS24 w0 W1 g f0 f1 := h.grown (grown_of_below hw none) (by simp)
theorem IsS24.alloc {w0 W : World} {g : Nat} {f0 : Int} {f1 : Int} (h : IsS24 w0 W g f0 f1) (o : Obj) : IsS24 w0 (W.alloc o) g f0 f1 := h.below (below_alloc (Below.refl _ _) o)
theorem IsS24.drewN {w0 W : World} {g : Nat} {f0 : Int} {f1 : Int} (h : IsS24 w0 W g f0 f1) (m : Nat) : IsS24 w0 (W.drewN m) g f0 f1 := h
theorem IsS24.drew {w0 W : World} {g : Nat} {f0 : Int} {f1 : Int} (h : IsS24 w0 W g f0 f1) : IsS24 w0 W.drew g f0 f1 := h
theorem IsS24.at_ {w0 W : World} {g : Nat} {f0 : Int} {f1 : Int} {w' : World} {m : Nat} (hq : W.drewN m = w') (h : IsS24 w0 W g f0 f1) : IsS24 w0 w' g f0 f1 := by subst hq;exact IsS24.drewN h m
theorem IsS24.apart {w0 W : World} {g : Nat} {f0 : Int} {f1 : Int} {α : Type} {d : Kd α} {e : Nat} {base : Nat} {ok : Nat → Prop} {v : Value} {xs : List α} (h : IsS24 w0 W g f0 f1) (ho : d.R e W base ok v xs) (ht : ∀ q,q ∈ e :: d.E → q ≠ 24) : d.R e W base (fun k => ok k ∧ k ≠ g) v xs := by
 obtain ⟨hb,hg⟩ := h
 exact Kd.R_types ho hb ht
theorem IsS24.own_ne {w0 W : World} {g : Nat} {f0 : Int} {f1 : Int} {α : Type} {d : Kd α} {e : Nat} {base : Nat} {ok : Nat → Prop} {v : Value} {xs : List α} (h : IsS24 w0 W g f0 f1) (ho : d.R e W base ok v xs) (ht : e ≠ 24) : some g ≠ v.ownBlock := by
 obtain ⟨hb,hg⟩ := h
 exact Kd.R_ne ho hb ht
theorem IsS24.apartQ {w0 W : World} {g : Nat} {f0 : Int} {f1 : Int} {α : Type} {d : Kd α} {e : Nat} {base : Nat} {ok : Nat → Prop} {v : Value} {xs : List α} (h : IsS24 w0 W g f0 f1) (ho : d.Q e W base ok v xs) (ht : ∀ q,q ∈ e :: d.E → q ≠ 24) : d.Q e W base (fun k => ok k ∧ k ≠ g) v xs := by
 obtain ⟨hb,hg⟩ := h
 exact Kd.Q_types ho hb ht
theorem IsS24.own_neQ {w0 W : World} {g : Nat} {f0 : Int} {f1 : Int} {α : Type} {d : Kd α} {e : Nat} {base : Nat} {ok : Nat → Prop} {v : Value} {xs : List α} (h : IsS24 w0 W g f0 f1) (ho : d.Q e W base ok v xs) (ht : e ≠ 24) : some g ≠ v.ownBlock := by
 obtain ⟨hb,hg⟩ := h
 exact Kd.Q_ne ho hb ht
theorem IsS24.apartS {w0 W : World} {g : Nat} {f0 : Int} {f1 : Int} {α : Type} {d : Kd α} {e : Nat} {base : Nat} {ok : Nat → Prop} {v : Value} {xs : List α} (h : IsS24 w0 W g f0 f1) (ho : d.S e W base ok v xs) (ht : ∀ q,q ∈ e :: d.E → q ≠ 24) : d.S e W base (fun k => ok k ∧ k ≠ g) v xs := by
 obtain ⟨hb,hg⟩ := h
 exact Kd.S_types ho hb ht
theorem IsS24.own_neS {w0 W : World} {g : Nat} {f0 : Int} {f1 : Int} {α : Type} {d : Kd α} {e : Nat} {base : Nat} {ok : Nat → Prop} {v : Value} {xs : List α} (h : IsS24 w0 W g f0 f1) (ho : d.S e W base ok v xs) (ht : e ≠ 24) : some g ≠ v.ownBlock := by
 obtain ⟨hb,hg⟩ := h
 exact Kd.S_ne ho hb ht
theorem IsS24.lt {w0 W : World} {g : Nat} {f0 : Int} {f1 : Int} (h : IsS24 w0 W g f0 f1) : g < W.heap.size := by
 obtain ⟨hb,hg⟩ := h
 exact blk_lt hb
theorem IsS24.ge {w0 W : World} {g : Nat} {f0 : Int} {f1 : Int} (h : IsS24 w0 W g f0 f1) : w0.heap.size ≤ g := by
 obtain ⟨hb,hg⟩ := h
 exact hg
theorem IsS24.ne_blk {w0 W : World} {g : Nat} {f0 : Int} {f1 : Int} {a : Nat} {cs : Array Value} {t : TypeId} {fr : Nat × Nat} (h : IsS24 w0 W g f0 f1) (hb2 : W.heap[a]? = some (.cells cs t fr)) (ht : t ≠ 24) : g ≠ a := by
 obtain ⟨hb,hg⟩ := h
 rintro rfl
 rw [hb] at hb2
 injection hb2 with hb2
 injection hb2 with _ ht2
 exact ht ht2.symm
theorem IsS24.far {w0 W : World} {g : Nat} {f0 : Int} {f1 : Int} {p : Addr} (h : IsS24 w0 W g f0 f1) (hne : g ≠ p.block) (u : Value) : IsS24 w0 (W.setCell p u) g f0 f1 := by
 obtain ⟨hb,hg⟩ := h
 exact ⟨blk_far hb hne u,hg⟩
theorem cellS24_0 {W : World} {g : Nat} {f0 : Int} {f1 : Int} (h : W.heap[g]? = some (.cells #[.int .i64 f0, .int .i64 f1] 24 (0,0))) : W.cell? ⟨g,0,none⟩ = some (.int .i64 f0) := (blk_cell h 0).trans rfl
theorem IsS24.set_0 {w0 W : World} {g : Nat} {f0 : Int} {f1 : Int} (h : IsS24 w0 W g f0 f1) (x : Int) : IsS24 w0 (W.setCell ⟨g,0,none⟩ (.int .i64 x)) g x f1 := by
 obtain ⟨hb,hg⟩ := h
 exact ⟨by simpa using blk_set hb 0 (.int .i64 x),hg⟩
theorem cellS24_1 {W : World} {g : Nat} {f0 : Int} {f1 : Int} (h : W.heap[g]? = some (.cells #[.int .i64 f0, .int .i64 f1] 24 (0,0))) : W.cell? ⟨g,1,none⟩ = some (.int .i64 f1) := (blk_cell h 1).trans rfl
theorem IsS24.set_1 {w0 W : World} {g : Nat} {f0 : Int} {f1 : Int} (h : IsS24 w0 W g f0 f1) (x : Int) : IsS24 w0 (W.setCell ⟨g,1,none⟩ (.int .i64 x)) g f0 x := by
 obtain ⟨hb,hg⟩ := h
 exact ⟨by simpa using blk_set hb 1 (.int .i64 x),hg⟩
theorem IsS24.new (w0 W : World) (f0 : Int) (f1 : Int) (hB : Below w0.heap.size w0 W) : IsS24 w0 (W.alloc (.cells #[.int .i64 f0, .int .i64 f1] 24)) W.heap.size f0 f1 := ⟨by simpa using heap_alloc_new W _,hB.size⟩

/-! ### arrearslaw10_AgingMisses: function 10 -/
def arrearslaw10_AgingMisses.j0 : Nat → List (S31) → Int → Int → List Int → Bool → Int → Int → Option (Bool)
 | 0,_,_,_,_,_,_,_ => none
 | k + 1,x0,x2,x3,x4,x24,x282000,x282001 => if x24 = true then (some true) else ((arrearslaw10_copied.f x0).bind fun t282 => (if t282.length < 4398046511104 then ((some (t282 ++ [(⟨(-901),0,0,false⟩ : S31)] : List (S31))).bind fun y285 => (if 0 ≤ (x0.length : Int) then (if (x0.length : Int) ≤ (y285.length : Int) then ((some (y285.take ((x0.length : Int) : Int).toNat : List (S31))).bind fun y288 => (if ([] : List Int).length + x4.length < 17592186044416 then ((some (([] : List Int) ++ x4 : List Int)).bind fun y292 => ((arrearsref10_Missed.f k x0 x282000 x282001 x2 x3).bind fun t295 => ((aging_Missed.f k y288 x282000 x282001 x2 x3).bind fun t298 => ((aging_Missed.f k y288 x282000 x282001 x2 x3).bind fun t301 => ((arrearslaw10_sameRows.f k t298 t295).bind fun t304 => (if t304 = true then ((arrearslaw10_sameRows.f k t301 t295).bind fun t305 => (if t305 = true then ((arrearslaw10_alone.f k t298 t301 t295).bind fun t306 => (if t306 = true then ((arrearsref10_Mark.f k x0 x4).bind fun t307 => ((arrearslaw10_marksRight.f k y288 y292 t307).bind fun t310 => (if t310 = true then ((arrearslaw10_samePlan.f k y288 x0).bind fun t311 => (if t311 = true then ((arrearslaw10_sameRows.f k y292 x4).bind fun t312 => (if t312 = true then (if (x0.length : Int) < (y285.length : Int) then (if ((rd_T31 y285 (x0.length : Int)).f0) = (-901) then ((arrearslaw10_anew.f k x0 x282000 x282001 x2 x3 x4).bind fun t314 => (some t314)) else (none)) else (none)) else (none))) else (none))) else (none)))) else (none))) else (none))) else (none))))))) else (none))) else (none)) else (none))) else (none)))
def arrearslaw10_AgingMisses.f (k : Nat) (l0 : List (S31)) (a1_0 : Int) (a1_1 : Int) (a2 : Int) (a3 : Int) (l4 : List Int) : Option (Bool) := if (l0.length : Int) > 400 then (arrearslaw10_AgingMisses.j0 k l0 a2 a3 l4 true a1_0 a1_1) else (arrearslaw10_AgingMisses.j0 k l0 a2 a3 l4 (decide ((l4.length : Int) > 400)) a1_0 a1_1)
theorem arrearslaw10_AgingMisses.mono_l : ∀ k,(∀ y0 y1 y2 y3 y4 y5 y6,LeO (arrearslaw10_AgingMisses.j0 k y0 y1 y2 y3 y4 y5 y6) (arrearslaw10_AgingMisses.j0 (k + 1) y0 y1 y2 y3 y4 y5 y6))
 | 0 => fun _ _ _ _ _ _ _ r h => by simp [arrearslaw10_AgingMisses.j0] at h
 | k + 1 => by
  have ih0 := arrearslaw10_AgingMisses.mono_l k
  ·
   intro y0 y1 y2 y3 y4 y5 y6
   unfold arrearslaw10_AgingMisses.j0
   repeat' first
   | (with_reducible exact ih0 _ _ _ _ _ _ _)
   | (with_reducible exact aging_Missed.mono _ _ _ _ _ _)
   | (with_reducible exact arrearslaw10_alone.mono _ _ _ _)
   | (with_reducible exact arrearslaw10_anew.mono _ _ _ _ _ _ _)
   | (with_reducible exact arrearslaw10_marksRight.mono _ _ _ _)
   | (with_reducible exact arrearslaw10_samePlan.mono _ _ _)
   | (with_reducible exact arrearslaw10_sameRows.mono _ _ _)
   | (with_reducible exact arrearsref10_Mark.mono _ _ _)
   | (with_reducible exact arrearsref10_Missed.mono _ _ _ _ _ _)
   | (with_reducible exact LeO.refl _)
   | (with_reducible exact LeO.none _)
   | (with_reducible refine LeO.ite ?_ ?_)
   | (with_reducible refine LeO.bind ?_ (fun _ => ?_))
   | exact ih0 _ _ _ _ _ _ _
   | exact aging_Missed.mono _ _ _ _ _ _
   | exact arrearslaw10_alone.mono _ _ _ _
   | exact arrearslaw10_anew.mono _ _ _ _ _ _ _
   | exact arrearslaw10_marksRight.mono _ _ _ _
   | exact arrearslaw10_samePlan.mono _ _ _
   | exact arrearslaw10_sameRows.mono _ _ _
   | exact arrearsref10_Mark.mono _ _ _
   | exact arrearsref10_Missed.mono _ _ _ _ _ _
   | exact LeO.none _
   | refine LeO.ite ?_ ?_
   | refine LeO.bind ?_ (fun _ => ?_)
theorem arrearslaw10_AgingMisses.mono : ∀ a0 a1 a2 a3 a4 a5 k,LeO (arrearslaw10_AgingMisses.f k a0 a1 a2 a3 a4 a5) (arrearslaw10_AgingMisses.f (k + 1) a0 a1 a2 a3 a4 a5) := by
 intro a0 a1 a2 a3 a4 a5 k
 have ih0 := arrearslaw10_AgingMisses.mono_l k
 unfold arrearslaw10_AgingMisses.f
 repeat' first
   | (with_reducible exact ih0 _ _ _ _ _ _ _)
   | (with_reducible exact aging_Missed.mono _ _ _ _ _ _)
   | (with_reducible exact arrearslaw10_alone.mono _ _ _ _)
   | (with_reducible exact arrearslaw10_anew.mono _ _ _ _ _ _ _)
   | (with_reducible exact arrearslaw10_marksRight.mono _ _ _ _)
   | (with_reducible exact arrearslaw10_samePlan.mono _ _ _)
   | (with_reducible exact arrearslaw10_sameRows.mono _ _ _)
   | (with_reducible exact arrearsref10_Mark.mono _ _ _)
   | (with_reducible exact arrearsref10_Missed.mono _ _ _ _ _ _)
   | (with_reducible exact LeO.refl _)
   | (with_reducible exact LeO.none _)
   | (with_reducible refine LeO.ite ?_ ?_)
   | (with_reducible refine LeO.bind ?_ (fun _ => ?_))
   | exact ih0 _ _ _ _ _ _ _
   | exact aging_Missed.mono _ _ _ _ _ _
   | exact arrearslaw10_alone.mono _ _ _ _
   | exact arrearslaw10_anew.mono _ _ _ _ _ _ _
   | exact arrearslaw10_marksRight.mono _ _ _ _
   | exact arrearslaw10_samePlan.mono _ _ _
   | exact arrearslaw10_sameRows.mono _ _ _
   | exact arrearsref10_Mark.mono _ _ _
   | exact arrearsref10_Missed.mono _ _ _ _ _ _
   | exact LeO.none _
   | refine LeO.ite ?_ ?_
   | refine LeO.bind ?_ (fun _ => ?_)
set_option maxHeartbeats 8000000 in
set_option maxRecDepth 100000 in
theorem arrearslaw10_AgingMisses.calls (k : Nat) (A0 : Option Addr) (c0 : Nat) (l0 : List (S31)) (a1_0 : Int) (a1_1 : Int) (a2 : Int) (a3 : Int) (A4 : Option Addr) (c4 : Nat) (l4 : List Int) (r : Bool) (w : World) (hr0 : Kd.C k31 w A0 l0.length l0) (hc0 : l0.length ≤ c0) (hr4 : Kd.C (Kd.int .i64) w A4 l4.length l4) (hc4 : l4.length ≤ c4) (h : arrearslaw10_AgingMisses.f k l0 a1_0 a1_1 a2 a3 l4 = some r) :
  Calls Try.prog 10 #[.slice A0 l0.length c0, .agg #[.int .i64 a1_0, .int .i64 a1_1], .int .i64 a2, .int .i64 a3, .slice A4 l4.length c4] w fun e w' => e = .returned (.bool r) ∧ Below w.heap.size w w' := by
 have hu24 := Try.underlying24
 have hu31 := Try.underlying31
 have HR0 := Aside0.mk hr0
 have HC0 := Aside0.mk hc0
 clear hr0 hc0
 have HR4 := Aside0.mk hr4
 have HC4 := Aside0.mk hc4
 clear hr4 hc4
 have HB := Aside0.mk (Below.refl w.heap.size w)
 have H : (if (l0.length : Int) > 400 then (arrearslaw10_AgingMisses.j0 k l0 a2 a3 l4 true a1_0 a1_1) else (arrearslaw10_AgingMisses.j0 k l0 a2 a3 l4 (decide ((l4.length : Int) > 400)) a1_0 a1_1)) = some r := h
 clear h
 have HC6 := Aside0.mk H
 clear H
 go_enter Try.func10,Try.ntmps10
 go_upto_region 1 with (first | ((with_reducible refine gate_dst (N:=6) rfl ?_);(try (refine gate_guard (by rfl) ?_;dsimp only));refine box_event ?hg (N:=6) ?hd (cs:=#[.int .i64 a1_0, .int .i64 a1_1]) (t:=24) ?hr ?_;(case hd => rfl);(case hg => rfl);(case hr => first | (go_simp;done) | (go_simp;rfl));intro gb281 hg w7 hbox hb;have n0_ := Aside0.mk (below_step (by repeat (first | (with_reducible first | exact HB.out | apply below_alloc | apply pw_below_drewN | apply below_drew1) | exact HB.out)) hb);have n1_ := Aside0.mk (hbox);have n2_ := Aside0.mk ((by rw [hg];exact (below_size (by repeat (first | (with_reducible first | exact HB.out | apply below_alloc | apply pw_below_drewN | apply below_drew1) | exact HB.out))) : w.heap.size ≤ gb281));have n3_ := Aside0.mk ((by rw [hg];exact (below_size (by repeat (first | (with_reducible first | exact HB.out | apply below_alloc | apply pw_below_drewN | apply below_drew1) | exact HB.out))) : w.heap.size ≤ gb281));clear HB;have HB := n0_;have BK281 := n1_;have GW281 := n2_;have GE281 := n3_;clear n0_ n1_ n2_ n3_;clear hb hbox hg))
 (try simp only [Act.put,List.setIfInBounds_toArray,List.set_cons_zero,List.set_cons_succ])
 go_cut [24] (fun v24 wc => ∃ (kq : Nat) (x24_5 : Bool),v24 = .bool x24_5 ∧ Aside0 (arrearslaw10_AgingMisses.j0 kq l0 a2 a3 l4 x24_5 a1_0 a1_1 = some r) ∧ Aside0 (kq ≤ k) ∧ Aside0 (wc.heap[gb281]? = some (.cells #[.int .i64 a1_0, .int .i64 a1_1] 24 (0,0))) ∧ Aside0 (Below w.heap.size w wc))
 case first =>
  have H := HC6.out
  clear HC6
  by_cases c8 : (l0.length : Int) > 400
  ·
   rw [if_pos c8] at H
   have c8b0 : decide (400 < (l0.length : Int)) = true := decide_eq_true c8
   have c8b1 : decide (400 < l0.length) = true := decide_eq_true (by omega)
   clear c8
   (first | rw [c8b0] | (simp only [i64_w,i32_w];rw [c8b0]) | skip)
   have H' := Aside0.mk H
   clear H
   go_wp2
   go_meet
   case rel => exact ⟨_,(true),(by first | rfl | (simp;done) | (simp [*];done)),H',⟨by first | omega | exact Nat.le_refl _⟩,⟨by (with_reducible repeat (first | refine blk_drewN ?_ _ | refine blk_drew ?_ | refine blk_alloc ?_ _));exact BK281.out⟩,⟨by repeat (first | (with_reducible first | exact HB.out | apply below_alloc | apply pw_below_drewN | apply below_drew1 | refine below_set ?_ GE281.out) | exact HB.out)⟩⟩
  ·
   rw [if_neg c8] at H
   have c8b0 : decide (400 < (l0.length : Int)) = false := decide_eq_false c8
   have c8b1 : decide (400 < l0.length) = false := decide_eq_false (by omega)
   clear c8
   (first | rw [c8b0] | (simp only [i64_w,i32_w];rw [c8b0]) | skip)
   have H' := Aside0.mk H
   clear H
   go_wp2
   go_meet
   case rel => exact ⟨_,(decide ((l4.length : Int) > 400)),(by first | rfl | (simp;done) | (simp [*];done)),H',⟨by first | omega | exact Nat.le_refl _⟩,⟨by (with_reducible repeat (first | refine blk_drewN ?_ _ | refine blk_drew ?_ | refine blk_alloc ?_ _));exact BK281.out⟩,⟨by repeat (first | (with_reducible first | exact HB.out | apply below_alloc | apply pw_below_drewN | apply below_drew1 | refine below_set ?_ GE281.out) | exact HB.out)⟩⟩
 case rest =>
  clear HC6
  try clear c1
  try clear p2
  try clear c4
  try clear c8
  try clear c8b0
  try clear c8b1
  obtain ⟨kq,x24_5,rfl,HA,HJ5,BK281,HB⟩ := hcut
  cases kq with
  | zero => exact absurd HA.out (by simp [arrearslaw10_AgingMisses.j0])
  | succ kj5 =>
   have H := HA.out
   clear HA
   simp only [arrearslaw10_AgingMisses.j0] at H
   by_cases c9 : x24_5 = true
   ·
    subst c9
    have H1 : (some true) = some r := by rw [if_pos rfl] at H;exact H
    clear H
    have H := H1
    clear H1
    obtain rfl := Option.some.inj H
    go_wp2
    go_ret
    exact ⟨by first | rfl | (simp [errW_none,errW_some] <;> rfl) | (simp [*,errW_none,errW_some] <;> rfl),by repeat (first | (with_reducible first | exact HB.out | apply below_alloc | apply pw_below_drewN | apply below_drew1 | refine below_set ?_ GE281.out) | exact HB.out)⟩
   ·
    replace c9 := Bool.eq_false_iff.mpr c9
    subst c9
    have H1 : ((arrearslaw10_copied.f l0).bind fun t282 => (if t282.length < 4398046511104 then ((some (t282 ++ [(⟨(-901),0,0,false⟩ : S31)] : List (S31))).bind fun y285 => (if 0 ≤ (l0.length : Int) then (if (l0.length : Int) ≤ (y285.length : Int) then ((some (y285.take ((l0.length : Int) : Int).toNat : List (S31))).bind fun y288 => (if ([] : List Int).length + l4.length < 17592186044416 then ((some (([] : List Int) ++ l4 : List Int)).bind fun y292 => ((arrearsref10_Missed.f kj5 l0 a1_0 a1_1 a2 a3).bind fun t295 => ((aging_Missed.f kj5 y288 a1_0 a1_1 a2 a3).bind fun t298 => ((aging_Missed.f kj5 y288 a1_0 a1_1 a2 a3).bind fun t301 => ((arrearslaw10_sameRows.f kj5 t298 t295).bind fun t304 => (if t304 = true then ((arrearslaw10_sameRows.f kj5 t301 t295).bind fun t305 => (if t305 = true then ((arrearslaw10_alone.f kj5 t298 t301 t295).bind fun t306 => (if t306 = true then ((arrearsref10_Mark.f kj5 l0 l4).bind fun t307 => ((arrearslaw10_marksRight.f kj5 y288 y292 t307).bind fun t310 => (if t310 = true then ((arrearslaw10_samePlan.f kj5 y288 l0).bind fun t311 => (if t311 = true then ((arrearslaw10_sameRows.f kj5 y292 l4).bind fun t312 => (if t312 = true then (if (l0.length : Int) < (y285.length : Int) then (if ((rd_T31 y285 (l0.length : Int)).f0) = (-901) then ((arrearslaw10_anew.f kj5 l0 a1_0 a1_1 a2 a3 l4).bind fun t314 => (some t314)) else (none)) else (none)) else (none))) else (none))) else (none)))) else (none))) else (none))) else (none))))))) else (none))) else (none)) else (none))) else (none))) = some r := by rw [if_neg (show ¬ (false = true) by decide)] at H;exact H
    clear H
    have H := H1
    clear H1
    replace H := Option.bind_eq_some_iff.mp H
    obtain ⟨t282,A100,H⟩ := H
    replace H : (if t282.length < 4398046511104 then ((some (t282 ++ [(⟨(-901),0,0,false⟩ : S31)] : List (S31))).bind fun y285 => (if 0 ≤ (l0.length : Int) then (if (l0.length : Int) ≤ (y285.length : Int) then ((some (y285.take ((l0.length : Int) : Int).toNat : List (S31))).bind fun y288 => (if ([] : List Int).length + l4.length < 17592186044416 then ((some (([] : List Int) ++ l4 : List Int)).bind fun y292 => ((arrearsref10_Missed.f kj5 l0 a1_0 a1_1 a2 a3).bind fun t295 => ((aging_Missed.f kj5 y288 a1_0 a1_1 a2 a3).bind fun t298 => ((aging_Missed.f kj5 y288 a1_0 a1_1 a2 a3).bind fun t301 => ((arrearslaw10_sameRows.f kj5 t298 t295).bind fun t304 => (if t304 = true then ((arrearslaw10_sameRows.f kj5 t301 t295).bind fun t305 => (if t305 = true then ((arrearslaw10_alone.f kj5 t298 t301 t295).bind fun t306 => (if t306 = true then ((arrearsref10_Mark.f kj5 l0 l4).bind fun t307 => ((arrearslaw10_marksRight.f kj5 y288 y292 t307).bind fun t310 => (if t310 = true then ((arrearslaw10_samePlan.f kj5 y288 l0).bind fun t311 => (if t311 = true then ((arrearslaw10_sameRows.f kj5 y292 l4).bind fun t312 => (if t312 = true then (if (l0.length : Int) < (y285.length : Int) then (if ((rd_T31 y285 (l0.length : Int)).f0) = (-901) then ((arrearslaw10_anew.f kj5 l0 a1_0 a1_1 a2 a3 l4).bind fun t314 => (some t314)) else (none)) else (none)) else (none))) else (none))) else (none)))) else (none))) else (none))) else (none))))))) else (none))) else (none)) else (none))) else (none)) = some r := H
    have A10 := Aside0.mk A100
    clear A100
    by_cases c11 : t282.length < 4398046511104
    ·
     rw [if_pos c11] at H
     have LMc11 := Aside0.mk c11
     clear c11
     obtain ⟨y285,hy285⟩ : ∃ y_ : List (S31),y_ = (t282 ++ [(⟨(-901),0,0,false⟩ : S31)]) := ⟨_,rfl⟩
     replace H : (if 0 ≤ (l0.length : Int) then (if (l0.length : Int) ≤ (y285.length : Int) then ((some (y285.take ((l0.length : Int) : Int).toNat : List (S31))).bind fun y288 => (if ([] : List Int).length + l4.length < 17592186044416 then ((some (([] : List Int) ++ l4 : List Int)).bind fun y292 => ((arrearsref10_Missed.f kj5 l0 a1_0 a1_1 a2 a3).bind fun t295 => ((aging_Missed.f kj5 y288 a1_0 a1_1 a2 a3).bind fun t298 => ((aging_Missed.f kj5 y288 a1_0 a1_1 a2 a3).bind fun t301 => ((arrearslaw10_sameRows.f kj5 t298 t295).bind fun t304 => (if t304 = true then ((arrearslaw10_sameRows.f kj5 t301 t295).bind fun t305 => (if t305 = true then ((arrearslaw10_alone.f kj5 t298 t301 t295).bind fun t306 => (if t306 = true then ((arrearsref10_Mark.f kj5 l0 l4).bind fun t307 => ((arrearslaw10_marksRight.f kj5 y288 y292 t307).bind fun t310 => (if t310 = true then ((arrearslaw10_samePlan.f kj5 y288 l0).bind fun t311 => (if t311 = true then ((arrearslaw10_sameRows.f kj5 y292 l4).bind fun t312 => (if t312 = true then (if (l0.length : Int) < (y285.length : Int) then (if ((rd_T31 y285 (l0.length : Int)).f0) = (-901) then ((arrearslaw10_anew.f kj5 l0 a1_0 a1_1 a2 a3 l4).bind fun t314 => (some t314)) else (none)) else (none)) else (none))) else (none))) else (none)))) else (none))) else (none))) else (none))))))) else (none))) else (none)) else (none)) = some r := by first | (rw [hy285];with_reducible exact H) | (have H2_ := (Option.bind_some _ _).symm.trans H;rw [hy285];with_reducible exact H2_) | (have H2_ := (Option.bind_some _ _).symm.trans H;with_reducible exact H2_) | with_reducible exact H | (rw [hy285];exact H) | exact H
     have Ny285 := Aside0.mk hy285
     clear hy285
     by_cases c12 : 0 ≤ (l0.length : Int)
     ·
      rw [if_pos c12] at H
      have c12b0 := eq_true c12
      have c12b1 : decide (0 ≤ (l0.length : Int)) = true := decide_eq_true c12
      clear c12
      by_cases c13 : (l0.length : Int) ≤ (y285.length : Int)
      ·
       rw [if_pos c13] at H
       have c13b0 := eq_true c13
       have c13b1 : decide ((l0.length : Int) ≤ (y285.length : Int)) = true := decide_eq_true c13
       clear c13
       obtain ⟨y288,hy288⟩ : ∃ y_ : List (S31),y_ = (y285.take ((l0.length : Int) : Int).toNat) := ⟨_,rfl⟩
       replace H : (if ([] : List Int).length + l4.length < 17592186044416 then ((some (([] : List Int) ++ l4 : List Int)).bind fun y292 => ((arrearsref10_Missed.f kj5 l0 a1_0 a1_1 a2 a3).bind fun t295 => ((aging_Missed.f kj5 y288 a1_0 a1_1 a2 a3).bind fun t298 => ((aging_Missed.f kj5 y288 a1_0 a1_1 a2 a3).bind fun t301 => ((arrearslaw10_sameRows.f kj5 t298 t295).bind fun t304 => (if t304 = true then ((arrearslaw10_sameRows.f kj5 t301 t295).bind fun t305 => (if t305 = true then ((arrearslaw10_alone.f kj5 t298 t301 t295).bind fun t306 => (if t306 = true then ((arrearsref10_Mark.f kj5 l0 l4).bind fun t307 => ((arrearslaw10_marksRight.f kj5 y288 y292 t307).bind fun t310 => (if t310 = true then ((arrearslaw10_samePlan.f kj5 y288 l0).bind fun t311 => (if t311 = true then ((arrearslaw10_sameRows.f kj5 y292 l4).bind fun t312 => (if t312 = true then (if (l0.length : Int) < (y285.length : Int) then (if ((rd_T31 y285 (l0.length : Int)).f0) = (-901) then ((arrearslaw10_anew.f kj5 l0 a1_0 a1_1 a2 a3 l4).bind fun t314 => (some t314)) else (none)) else (none)) else (none))) else (none))) else (none)))) else (none))) else (none))) else (none))))))) else (none)) = some r := by first | (rw [hy288];with_reducible exact H) | (have H2_ := (Option.bind_some _ _).symm.trans H;rw [hy288];with_reducible exact H2_) | (have H2_ := (Option.bind_some _ _).symm.trans H;with_reducible exact H2_) | with_reducible exact H | (rw [hy288];exact H) | exact H
       have Ny288 := Aside0.mk hy288
       clear hy288
       by_cases c14 : ([] : List Int).length + l4.length < 17592186044416
       ·
        rw [if_pos c14] at H
        have LMc14 := Aside0.mk c14
        clear c14
        obtain ⟨y292,hy292⟩ : ∃ y_ : List Int,y_ = (([] : List Int) ++ l4) := ⟨_,rfl⟩
        replace H : ((arrearsref10_Missed.f kj5 l0 a1_0 a1_1 a2 a3).bind fun t295 => ((aging_Missed.f kj5 y288 a1_0 a1_1 a2 a3).bind fun t298 => ((aging_Missed.f kj5 y288 a1_0 a1_1 a2 a3).bind fun t301 => ((arrearslaw10_sameRows.f kj5 t298 t295).bind fun t304 => (if t304 = true then ((arrearslaw10_sameRows.f kj5 t301 t295).bind fun t305 => (if t305 = true then ((arrearslaw10_alone.f kj5 t298 t301 t295).bind fun t306 => (if t306 = true then ((arrearsref10_Mark.f kj5 l0 l4).bind fun t307 => ((arrearslaw10_marksRight.f kj5 y288 y292 t307).bind fun t310 => (if t310 = true then ((arrearslaw10_samePlan.f kj5 y288 l0).bind fun t311 => (if t311 = true then ((arrearslaw10_sameRows.f kj5 y292 l4).bind fun t312 => (if t312 = true then (if (l0.length : Int) < (y285.length : Int) then (if ((rd_T31 y285 (l0.length : Int)).f0) = (-901) then ((arrearslaw10_anew.f kj5 l0 a1_0 a1_1 a2 a3 l4).bind fun t314 => (some t314)) else (none)) else (none)) else (none))) else (none))) else (none)))) else (none))) else (none))) else (none)))))) = some r := by first | (rw [hy292];with_reducible exact H) | (have H2_ := (Option.bind_some _ _).symm.trans H;rw [hy292];with_reducible exact H2_) | (have H2_ := (Option.bind_some _ _).symm.trans H;with_reducible exact H2_) | with_reducible exact H | (rw [hy292];exact H) | exact H
        have Ny292 := Aside0.mk hy292
        clear hy292
        replace H := Option.bind_eq_some_iff.mp H
        obtain ⟨t295,A150,H⟩ := H
        replace H : ((aging_Missed.f kj5 y288 a1_0 a1_1 a2 a3).bind fun t298 => ((aging_Missed.f kj5 y288 a1_0 a1_1 a2 a3).bind fun t301 => ((arrearslaw10_sameRows.f kj5 t298 t295).bind fun t304 => (if t304 = true then ((arrearslaw10_sameRows.f kj5 t301 t295).bind fun t305 => (if t305 = true then ((arrearslaw10_alone.f kj5 t298 t301 t295).bind fun t306 => (if t306 = true then ((arrearsref10_Mark.f kj5 l0 l4).bind fun t307 => ((arrearslaw10_marksRight.f kj5 y288 y292 t307).bind fun t310 => (if t310 = true then ((arrearslaw10_samePlan.f kj5 y288 l0).bind fun t311 => (if t311 = true then ((arrearslaw10_sameRows.f kj5 y292 l4).bind fun t312 => (if t312 = true then (if (l0.length : Int) < (y285.length : Int) then (if ((rd_T31 y285 (l0.length : Int)).f0) = (-901) then ((arrearslaw10_anew.f kj5 l0 a1_0 a1_1 a2 a3 l4).bind fun t314 => (some t314)) else (none)) else (none)) else (none))) else (none))) else (none)))) else (none))) else (none))) else (none))))) = some r := H
        have A15 := Aside0.mk A150
        clear A150
        replace H := Option.bind_eq_some_iff.mp H
        obtain ⟨t298,A160,H⟩ := H
        replace H : ((aging_Missed.f kj5 y288 a1_0 a1_1 a2 a3).bind fun t301 => ((arrearslaw10_sameRows.f kj5 t298 t295).bind fun t304 => (if t304 = true then ((arrearslaw10_sameRows.f kj5 t301 t295).bind fun t305 => (if t305 = true then ((arrearslaw10_alone.f kj5 t298 t301 t295).bind fun t306 => (if t306 = true then ((arrearsref10_Mark.f kj5 l0 l4).bind fun t307 => ((arrearslaw10_marksRight.f kj5 y288 y292 t307).bind fun t310 => (if t310 = true then ((arrearslaw10_samePlan.f kj5 y288 l0).bind fun t311 => (if t311 = true then ((arrearslaw10_sameRows.f kj5 y292 l4).bind fun t312 => (if t312 = true then (if (l0.length : Int) < (y285.length : Int) then (if ((rd_T31 y285 (l0.length : Int)).f0) = (-901) then ((arrearslaw10_anew.f kj5 l0 a1_0 a1_1 a2 a3 l4).bind fun t314 => (some t314)) else (none)) else (none)) else (none))) else (none))) else (none)))) else (none))) else (none))) else (none)))) = some r := H
        have A16 := Aside0.mk A160
        clear A160
        replace H := Option.bind_eq_some_iff.mp H
        obtain ⟨t301,A170,H⟩ := H
        replace H : ((arrearslaw10_sameRows.f kj5 t298 t295).bind fun t304 => (if t304 = true then ((arrearslaw10_sameRows.f kj5 t301 t295).bind fun t305 => (if t305 = true then ((arrearslaw10_alone.f kj5 t298 t301 t295).bind fun t306 => (if t306 = true then ((arrearsref10_Mark.f kj5 l0 l4).bind fun t307 => ((arrearslaw10_marksRight.f kj5 y288 y292 t307).bind fun t310 => (if t310 = true then ((arrearslaw10_samePlan.f kj5 y288 l0).bind fun t311 => (if t311 = true then ((arrearslaw10_sameRows.f kj5 y292 l4).bind fun t312 => (if t312 = true then (if (l0.length : Int) < (y285.length : Int) then (if ((rd_T31 y285 (l0.length : Int)).f0) = (-901) then ((arrearslaw10_anew.f kj5 l0 a1_0 a1_1 a2 a3 l4).bind fun t314 => (some t314)) else (none)) else (none)) else (none))) else (none))) else (none)))) else (none))) else (none))) else (none))) = some r := H
        have A17 := Aside0.mk A170
        clear A170
        replace H := Option.bind_eq_some_iff.mp H
        obtain ⟨t304,A180,H⟩ := H
        replace H : (if t304 = true then ((arrearslaw10_sameRows.f kj5 t301 t295).bind fun t305 => (if t305 = true then ((arrearslaw10_alone.f kj5 t298 t301 t295).bind fun t306 => (if t306 = true then ((arrearsref10_Mark.f kj5 l0 l4).bind fun t307 => ((arrearslaw10_marksRight.f kj5 y288 y292 t307).bind fun t310 => (if t310 = true then ((arrearslaw10_samePlan.f kj5 y288 l0).bind fun t311 => (if t311 = true then ((arrearslaw10_sameRows.f kj5 y292 l4).bind fun t312 => (if t312 = true then (if (l0.length : Int) < (y285.length : Int) then (if ((rd_T31 y285 (l0.length : Int)).f0) = (-901) then ((arrearslaw10_anew.f kj5 l0 a1_0 a1_1 a2 a3 l4).bind fun t314 => (some t314)) else (none)) else (none)) else (none))) else (none))) else (none)))) else (none))) else (none))) else (none)) = some r := H
        have A18 := Aside0.mk A180
        clear A180
        by_cases c19 : t304 = true
        ·
         subst c19
         have H1 : ((arrearslaw10_sameRows.f kj5 t301 t295).bind fun t305 => (if t305 = true then ((arrearslaw10_alone.f kj5 t298 t301 t295).bind fun t306 => (if t306 = true then ((arrearsref10_Mark.f kj5 l0 l4).bind fun t307 => ((arrearslaw10_marksRight.f kj5 y288 y292 t307).bind fun t310 => (if t310 = true then ((arrearslaw10_samePlan.f kj5 y288 l0).bind fun t311 => (if t311 = true then ((arrearslaw10_sameRows.f kj5 y292 l4).bind fun t312 => (if t312 = true then (if (l0.length : Int) < (y285.length : Int) then (if ((rd_T31 y285 (l0.length : Int)).f0) = (-901) then ((arrearslaw10_anew.f kj5 l0 a1_0 a1_1 a2 a3 l4).bind fun t314 => (some t314)) else (none)) else (none)) else (none))) else (none))) else (none)))) else (none))) else (none))) = some r := by rw [if_pos rfl] at H;exact H
         clear H
         have H := H1
         clear H1
         replace H := Option.bind_eq_some_iff.mp H
         obtain ⟨t305,A200,H⟩ := H
         replace H : (if t305 = true then ((arrearslaw10_alone.f kj5 t298 t301 t295).bind fun t306 => (if t306 = true then ((arrearsref10_Mark.f kj5 l0 l4).bind fun t307 => ((arrearslaw10_marksRight.f kj5 y288 y292 t307).bind fun t310 => (if t310 = true then ((arrearslaw10_samePlan.f kj5 y288 l0).bind fun t311 => (if t311 = true then ((arrearslaw10_sameRows.f kj5 y292 l4).bind fun t312 => (if t312 = true then (if (l0.length : Int) < (y285.length : Int) then (if ((rd_T31 y285 (l0.length : Int)).f0) = (-901) then ((arrearslaw10_anew.f kj5 l0 a1_0 a1_1 a2 a3 l4).bind fun t314 => (some t314)) else (none)) else (none)) else (none))) else (none))) else (none)))) else (none))) else (none)) = some r := H
         have A20 := Aside0.mk A200
         clear A200
         by_cases c21 : t305 = true
         ·
          subst c21
          have H1 : ((arrearslaw10_alone.f kj5 t298 t301 t295).bind fun t306 => (if t306 = true then ((arrearsref10_Mark.f kj5 l0 l4).bind fun t307 => ((arrearslaw10_marksRight.f kj5 y288 y292 t307).bind fun t310 => (if t310 = true then ((arrearslaw10_samePlan.f kj5 y288 l0).bind fun t311 => (if t311 = true then ((arrearslaw10_sameRows.f kj5 y292 l4).bind fun t312 => (if t312 = true then (if (l0.length : Int) < (y285.length : Int) then (if ((rd_T31 y285 (l0.length : Int)).f0) = (-901) then ((arrearslaw10_anew.f kj5 l0 a1_0 a1_1 a2 a3 l4).bind fun t314 => (some t314)) else (none)) else (none)) else (none))) else (none))) else (none)))) else (none))) = some r := by rw [if_pos rfl] at H;exact H
          clear H
          have H := H1
          clear H1
          replace H := Option.bind_eq_some_iff.mp H
          obtain ⟨t306,A220,H⟩ := H
          replace H : (if t306 = true then ((arrearsref10_Mark.f kj5 l0 l4).bind fun t307 => ((arrearslaw10_marksRight.f kj5 y288 y292 t307).bind fun t310 => (if t310 = true then ((arrearslaw10_samePlan.f kj5 y288 l0).bind fun t311 => (if t311 = true then ((arrearslaw10_sameRows.f kj5 y292 l4).bind fun t312 => (if t312 = true then (if (l0.length : Int) < (y285.length : Int) then (if ((rd_T31 y285 (l0.length : Int)).f0) = (-901) then ((arrearslaw10_anew.f kj5 l0 a1_0 a1_1 a2 a3 l4).bind fun t314 => (some t314)) else (none)) else (none)) else (none))) else (none))) else (none)))) else (none)) = some r := H
          have A22 := Aside0.mk A220
          clear A220
          by_cases c23 : t306 = true
          ·
           subst c23
           have H1 : ((arrearsref10_Mark.f kj5 l0 l4).bind fun t307 => ((arrearslaw10_marksRight.f kj5 y288 y292 t307).bind fun t310 => (if t310 = true then ((arrearslaw10_samePlan.f kj5 y288 l0).bind fun t311 => (if t311 = true then ((arrearslaw10_sameRows.f kj5 y292 l4).bind fun t312 => (if t312 = true then (if (l0.length : Int) < (y285.length : Int) then (if ((rd_T31 y285 (l0.length : Int)).f0) = (-901) then ((arrearslaw10_anew.f kj5 l0 a1_0 a1_1 a2 a3 l4).bind fun t314 => (some t314)) else (none)) else (none)) else (none))) else (none))) else (none)))) = some r := by rw [if_pos rfl] at H;exact H
           clear H
           have H := H1
           clear H1
           replace H := Option.bind_eq_some_iff.mp H
           obtain ⟨t307,A240,H⟩ := H
           replace H : ((arrearslaw10_marksRight.f kj5 y288 y292 t307).bind fun t310 => (if t310 = true then ((arrearslaw10_samePlan.f kj5 y288 l0).bind fun t311 => (if t311 = true then ((arrearslaw10_sameRows.f kj5 y292 l4).bind fun t312 => (if t312 = true then (if (l0.length : Int) < (y285.length : Int) then (if ((rd_T31 y285 (l0.length : Int)).f0) = (-901) then ((arrearslaw10_anew.f kj5 l0 a1_0 a1_1 a2 a3 l4).bind fun t314 => (some t314)) else (none)) else (none)) else (none))) else (none))) else (none))) = some r := H
           have A24 := Aside0.mk A240
           clear A240
           replace H := Option.bind_eq_some_iff.mp H
           obtain ⟨t310,A250,H⟩ := H
           replace H : (if t310 = true then ((arrearslaw10_samePlan.f kj5 y288 l0).bind fun t311 => (if t311 = true then ((arrearslaw10_sameRows.f kj5 y292 l4).bind fun t312 => (if t312 = true then (if (l0.length : Int) < (y285.length : Int) then (if ((rd_T31 y285 (l0.length : Int)).f0) = (-901) then ((arrearslaw10_anew.f kj5 l0 a1_0 a1_1 a2 a3 l4).bind fun t314 => (some t314)) else (none)) else (none)) else (none))) else (none))) else (none)) = some r := H
           have A25 := Aside0.mk A250
           clear A250
           by_cases c26 : t310 = true
           ·
            subst c26
            have H1 : ((arrearslaw10_samePlan.f kj5 y288 l0).bind fun t311 => (if t311 = true then ((arrearslaw10_sameRows.f kj5 y292 l4).bind fun t312 => (if t312 = true then (if (l0.length : Int) < (y285.length : Int) then (if ((rd_T31 y285 (l0.length : Int)).f0) = (-901) then ((arrearslaw10_anew.f kj5 l0 a1_0 a1_1 a2 a3 l4).bind fun t314 => (some t314)) else (none)) else (none)) else (none))) else (none))) = some r := by rw [if_pos rfl] at H;exact H
            clear H
            have H := H1
            clear H1
            replace H := Option.bind_eq_some_iff.mp H
            obtain ⟨t311,A270,H⟩ := H
            replace H : (if t311 = true then ((arrearslaw10_sameRows.f kj5 y292 l4).bind fun t312 => (if t312 = true then (if (l0.length : Int) < (y285.length : Int) then (if ((rd_T31 y285 (l0.length : Int)).f0) = (-901) then ((arrearslaw10_anew.f kj5 l0 a1_0 a1_1 a2 a3 l4).bind fun t314 => (some t314)) else (none)) else (none)) else (none))) else (none)) = some r := H
            have A27 := Aside0.mk A270
            clear A270
            by_cases c28 : t311 = true
            ·
             subst c28
             have H1 : ((arrearslaw10_sameRows.f kj5 y292 l4).bind fun t312 => (if t312 = true then (if (l0.length : Int) < (y285.length : Int) then (if ((rd_T31 y285 (l0.length : Int)).f0) = (-901) then ((arrearslaw10_anew.f kj5 l0 a1_0 a1_1 a2 a3 l4).bind fun t314 => (some t314)) else (none)) else (none)) else (none))) = some r := by rw [if_pos rfl] at H;exact H
             clear H
             have H := H1
             clear H1
             replace H := Option.bind_eq_some_iff.mp H
             obtain ⟨t312,A290,H⟩ := H
             replace H : (if t312 = true then (if (l0.length : Int) < (y285.length : Int) then (if ((rd_T31 y285 (l0.length : Int)).f0) = (-901) then ((arrearslaw10_anew.f kj5 l0 a1_0 a1_1 a2 a3 l4).bind fun t314 => (some t314)) else (none)) else (none)) else (none)) = some r := H
             have A29 := Aside0.mk A290
             clear A290
             by_cases c30 : t312 = true
             ·
              subst c30
              have H1 : (if (l0.length : Int) < (y285.length : Int) then (if ((rd_T31 y285 (l0.length : Int)).f0) = (-901) then ((arrearslaw10_anew.f kj5 l0 a1_0 a1_1 a2 a3 l4).bind fun t314 => (some t314)) else (none)) else (none)) = some r := by rw [if_pos rfl] at H;exact H
              clear H
              have H := H1
              clear H1
              by_cases c31 : (l0.length : Int) < (y285.length : Int)
              ·
               rw [if_pos c31] at H
               have c31b0 : decide ((l0.length : Int) < (y285.length : Int)) = true := decide_eq_true c31
               have c31b1 : decide (l0.length < y285.length) = true := decide_eq_true (Int.ofNat_lt.mp c31)
               clear c31
               by_cases c32 : ((rd_T31 y285 (l0.length : Int)).f0) = (-901)
               ·
                rw [if_pos c32] at H
                have c32b0 : (((rd_T31 y285 (l0.length : Int)).f0) == (-901)) = true := beq_iff_eq.mpr c32
                have c32b1 : (((rd_T31 y285 (l0.length : Int)).f0) != (-901)) = false := bne_eq_false_iff_eq.mpr c32
                clear c32
                replace H := Option.bind_eq_some_iff.mp H
                obtain ⟨t314,A330,H⟩ := H
                replace H : (some t314) = some r := H
                have A33 := Aside0.mk A330
                clear A330
                obtain rfl := Option.some.inj H
                go_wp2_with (first | ((with_reducible refine gate_callee (f:=14) rfl ?_);refine goesL_ (some 26) rfl rfl Try.func14 (by kernel_rfl) rfl #[.slice A0 l0.length c0] rfl (by (try simp only [List.map_toArray,List.map_cons,List.map_nil]);first | done | rfl | (simp only [List.length_drop,List.length_take];rfl)) ?_;(with_reducible refine (arrearslaw10_copied.calls _ _ l0 t282 _ ?side1 ?side2 A10.out).mono ?_);(case side1 => repeat (first | exact (Kd.C_below HR0.out HB.out) | (with_reducible refine Kd.C_alloc ?_ _) | (with_reducible refine Kd.C_drewN ?_ _) | (with_reducible refine Kd.C_drew ?_)));(case side2 => exact HC0.out);rintro e w34 ⟨v283,rfl,ho0,hb⟩;refine ⟨_,rfl,?_⟩;have n0_ := Aside0.mk (Kd.R_lower ho0 (below_size (by repeat (first | (with_reducible first | exact HB.out | apply below_alloc | apply pw_below_drewN | apply below_drew1 | refine below_set ?_ GE281.out) | exact HB.out))));have n1_ := Aside0.mk (blk_below (g:=gb281) (o:=.cells #[.int .i64 a1_0, .int .i64 a1_1] 24 (0,0)) (by (with_reducible repeat (first | refine blk_drewN ?_ _ | refine blk_drew ?_ | refine blk_alloc ?_ _));exact BK281.out) hb);have n2_ := Aside0.mk (below_step (by repeat (first | (with_reducible first | exact HB.out | apply below_alloc | apply pw_below_drewN | apply below_drew1 | refine below_set ?_ GE281.out) | exact HB.out)) hb);clear BK281;clear HB;have HO284 := n0_;have BK281 := n1_;have HB := n2_;clear n0_ n1_ n2_;(try clear hb);(try clear hb2);(try clear hk);(try clear hi);(try clear ho0)) | ((with_reducible refine gate_builtin (b:=.append) (xs:=#[.tmp 26, .tmp 28]) rfl ?_);(try (refine gate_guard (by rfl) ?_;dsimp only));at_builtin;refine Kd.R_append k31 (w0:=w) w.heap.size rfl (.tmp 26) (.tmp 28) 22 31 (.agg #[(.int .i64 0),(.int .i64 0),(.int .i64 0),(.bool false)]) 32 rfl Try.underlying22 info31 rfl (by decide) (by omega) v283 t282 (⟨(-901),0,0,false⟩ : S31) [.int .i64 (-901), .int .i64 0, .int .i64 0, .bool false] (fun _ => True) (fun _ => False) rfl rfl ?aP (fun _ hk => hk.elim) ?aF ?aO ?aB ?aS ?aL ?_;(case aP => exact k31_mkM _ _ _ (⟨(-901),0,0,false⟩ : S31));(case aB => exact (by repeat (first | (with_reducible first | exact HB.out | apply below_alloc | apply pw_below_drewN | apply below_drew1 | refine below_set ?_ GE281.out) | exact HB.out)));(case aF => exact (fun _ _ => trivial));(case aO => exact (by (with_reducible repeat (first | apply Kd.R_alloc | apply Kd.R_drewN | apply Kd.R_drew));exact HO284.out));(case aS => exact (below_size (by repeat (first | (with_reducible first | exact HB.out | apply below_alloc | apply pw_below_drewN | apply below_drew1 | refine below_set ?_ GE281.out) | exact HB.out))));(case aL => have := LMc11.out;omega);intro v286 w35 ho hb hg hat;rw [← Ny285.out] at ho;have n0_ := Aside0.mk (blk_grown (g:=gb281) (o:=.cells #[.int .i64 a1_0, .int .i64 a1_1] 24 (0,0)) (by (with_reducible repeat (first | refine blk_drewN ?_ _ | refine blk_drew ?_ | refine blk_alloc ?_ _));exact BK281.out) hg (Kd.R_ne HO284.out BK281.out (by decide)));have n1_ := Aside0.mk (hb);have n2_ := Aside0.mk (ho);clear BK281;clear HB;clear HO284;have BK281 := n0_;have HB := n1_;have HO287 := n2_;clear n0_ n1_ n2_;clear ho hb hg hat;obtain ⟨Ao37,co37,eo37⟩ := Kd.R_slice HO287.out;subst eo37;have q36 : ((l0.length : Int) : Int) ≤ ((y285.length : Int) : Int) := of_decide_eq_true (by first | (with_reducible assumption) | assumption);obtain ⟨i036,hi036,_,hsz36,_⟩ := info_parts info31;have hroom36 : y285.length ≤ co37 := (Kd.R_reads' HO287.out).2.1;have hC36 : Kd.C k31 _ Ao37 y285.length y285 := (Kd.R_reads' HO287.out).2.2;have hcut36 := cut_to (P:=Try.prog) 22 31 .i64 Try.underlying22 hi036 Ao37 y285.length co37 (l0.length : Int) (of_decide_eq_true (by first | (with_reducible assumption) | assumption)) q36 hroom36;have hr36 := Kd.C_take (m:=((l0.length : Int) : Int).toNat) hC36 (by omega);have hy36 : y288.length = ((l0.length : Int) : Int).toNat := (by rw [Ny288.out,List.length_take];omega);rw [← Ny288.out] at hr36;rw [← hy36] at hcut36;have HR291 := Aside0.mk hr36;have HC291 := Aside0.mk (show y288.length ≤ co37 from by omega);clear hr36 hC36 hroom36 hi036 hsz36;have KY36 := Aside0.mk hy36;clear hy36;have KL36 := Aside0.mk (show ((l0.length : Int) : Int).toNat ≤ y285.length from by omega);replace q36 := eq_true q36) | ((with_reducible refine gate_builtin (b:=.append) (xs:=#[.tmp 34, .tmp 35]) rfl ?_);(try (refine gate_guard (by rfl) ?_;dsimp only));at_builtin;refine Kd.R_append_rows (Kd.int .i64) (w0:=w) w.heap.size rfl (.tmp 34) (.tmp 35) 41 3 (.int .i64 0) 8 rfl Try.underlying41 info3 rfl (by decide) (by omega) (.slice none 0 0) ([] : List Int) l4 _ _ _ (fun _ => True) (fun _ => False) rfl rfl ?aO ?aR (fun _ _ h => h) (fun _ h => h.elim) ?aF ?aB ?aS ?aL ?_;(case aR => repeat (first | exact (Kd.C_below HR4.out HB.out) | (with_reducible refine Kd.C_alloc ?_ _) | (with_reducible refine Kd.C_drewN ?_ _) | (with_reducible refine Kd.C_drew ?_)));(case aB => exact (by repeat (first | (with_reducible first | exact HB.out | apply below_alloc | apply pw_below_drewN | apply below_drew1 | refine below_set ?_ GE281.out) | exact HB.out)));(case aF => exact (fun _ _ => trivial));(case aO => exact ((Kd.R_nil _ _ _ _ (fun _ => True))));(case aS => exact (below_size (by repeat (first | (with_reducible first | exact HB.out | apply below_alloc | apply pw_below_drewN | apply below_drew1 | refine below_set ?_ GE281.out) | exact HB.out))));(case aL => have := LMc14.out;omega);intro v293 w38 ho hb hg hat;rw [← Ny292.out] at ho;have n0_ := Aside0.mk (blk_grown (g:=gb281) (o:=.cells #[.int .i64 a1_0, .int .i64 a1_1] 24 (0,0)) (by (with_reducible repeat (first | refine blk_drewN ?_ _ | refine blk_drew ?_ | refine blk_alloc ?_ _));exact BK281.out) hg (by simp [Value.ownBlock]));have n1_ := Aside0.mk (Kd.R_grown (by (with_reducible repeat (first | apply Kd.R_alloc | apply Kd.R_drewN | apply Kd.R_drew));exact HO287.out) hg (fun _ _ => by simp [Value.ownBlock]));have n2_ := Aside0.mk (hb);have n3_ := Aside0.mk ((show Kd.C k31 w38 Ao37 y288.length y288 from by rw [Ny288.out];exact Kd.C_take (m:=((l0.length : Int) : Int).toNat) ((Kd.R_reads' (Kd.R_grown (by (with_reducible repeat (first | apply Kd.R_alloc | apply Kd.R_drewN | apply Kd.R_drew));exact HO287.out) hg (fun _ _ => by simp [Value.ownBlock]))).2.2) KL36.out));have n4_ := Aside0.mk (ho);clear BK281;clear HO287;clear HB;clear HR291;have BK281 := n0_;have HO287 := n1_;have HB := n2_;have HR291 := n3_;have HO294 := n4_;clear n0_ n1_ n2_ n3_ n4_;clear ho hb hg hat;have hcz39_0 : w38.cell? ⟨gb281,0,none⟩ = some (.int .i64 a1_0) := (blk_cell BK281.out 0).trans rfl;have hcz39_1 : w38.cell? ⟨gb281,1,none⟩ = some (.int .i64 a1_1) := (blk_cell BK281.out 1).trans rfl;have hfz39_0 := blk_frozen BK281.out 0;have hfz39_1 := blk_frozen BK281.out 1) | ((with_reducible refine gate_callee (f:=23) rfl ?_);refine goesL_ (some 41) rfl rfl Try.func23 (by kernel_rfl) rfl #[.slice A0 l0.length c0, .agg #[.int .i64 a1_0, .int .i64 a1_1], .int .i64 a2, .int .i64 a3] rfl (by (try simp only [List.map_toArray,List.map_cons,List.map_nil]);first | done | rfl | (simp only [List.length_drop,List.length_take];rfl)) ?_;(with_reducible refine (arrearsref10_Missed.calls kj5 _ _ l0 a1_0 a1_1 a2 a3 t295 _ ?side1 ?side2 A15.out).mono ?_);(case side1 => repeat (first | exact (Kd.C_below HR0.out HB.out) | (with_reducible refine Kd.C_alloc ?_ _) | (with_reducible refine Kd.C_drewN ?_ _) | (with_reducible refine Kd.C_drew ?_)));(case side2 => exact HC0.out);rintro e w40 ⟨v296,rfl,ho0,hb⟩;refine ⟨_,rfl,?_⟩;have n0_ := Aside0.mk (Kd.R_below (by (with_reducible repeat (first | apply Kd.R_alloc | apply Kd.R_drewN | apply Kd.R_drew));exact HO287.out) hb);have n1_ := Aside0.mk (Kd.R_elder' (by (with_reducible repeat (first | apply Kd.R_alloc | apply Kd.R_drewN | apply Kd.R_drew));exact HO294.out) (Kd.R_base ho0) hb);have n2_ := Aside0.mk (Kd.R_lower (Kd.R_new' ho0 (Kd.R_lt (by (with_reducible repeat (first | apply Kd.R_alloc | apply Kd.R_drewN | apply Kd.R_drew));exact HO294.out))) (below_size (by repeat (first | (with_reducible first | exact HB.out | apply below_alloc | apply pw_below_drewN | apply below_drew1 | refine below_set ?_ GE281.out) | exact HB.out))));have n3_ := Aside0.mk (blk_below (g:=gb281) (o:=.cells #[.int .i64 a1_0, .int .i64 a1_1] 24 (0,0)) (by (with_reducible repeat (first | refine blk_drewN ?_ _ | refine blk_drew ?_ | refine blk_alloc ?_ _));exact BK281.out) hb);have n4_ := Aside0.mk (Kd.C_below (by repeat (first | (with_reducible exact HR291.out) | (with_reducible refine Kd.C_alloc ?_ _) | (with_reducible refine Kd.C_drewN ?_ _) | (with_reducible refine Kd.C_drew ?_) | exact HR291.out)) hb);have n5_ := Aside0.mk (below_step (by repeat (first | (with_reducible first | exact HB.out | apply below_alloc | apply pw_below_drewN | apply below_drew1 | refine below_set ?_ GE281.out) | exact HB.out)) hb);clear HO287;clear HO294;clear BK281;clear HR291;clear HB;have HO287 := n0_;have HO294 := n1_;have HO297 := n2_;have BK281 := n3_;have HR291 := n4_;have HB := n5_;clear n0_ n1_ n2_ n3_ n4_ n5_;(try clear hb);(try clear hb2);(try clear hk);(try clear hi);(try clear ho0);have hcz41_0 : w40.cell? ⟨gb281,0,none⟩ = some (.int .i64 a1_0) := (blk_cell BK281.out 0).trans rfl;have hcz41_1 : w40.cell? ⟨gb281,1,none⟩ = some (.int .i64 a1_1) := (blk_cell BK281.out 1).trans rfl;have hfz41_0 := blk_frozen BK281.out 0;have hfz41_1 := blk_frozen BK281.out 1) | ((with_reducible refine gate_callee (f:=21) rfl ?_);refine goesL_ (some 46) rfl rfl Try.func21 (by kernel_rfl) rfl #[.slice Ao37 y288.length co37, .agg #[.int .i64 a1_0, .int .i64 a1_1], .int .i64 a2, .int .i64 a3] rfl (by (try simp only [List.map_toArray,List.map_cons,List.map_nil]);first | done | rfl | (simp only [List.length_drop,List.length_take];rfl)) ?_;(with_reducible refine (aging_Missed.calls kj5 _ _ y288 a1_0 a1_1 a2 a3 t298 _ ?side1 ?side2 A16.out).mono ?_);(case side1 => repeat (first | exact (by repeat (first | (with_reducible exact HR291.out) | (with_reducible refine Kd.C_alloc ?_ _) | (with_reducible refine Kd.C_drewN ?_ _) | (with_reducible refine Kd.C_drew ?_) | exact HR291.out)) | (with_reducible refine Kd.C_alloc ?_ _) | (with_reducible refine Kd.C_drewN ?_ _) | (with_reducible refine Kd.C_drew ?_)));(case side2 => exact HC291.out);rintro e w42 ⟨v299,rfl,ho0,hb⟩;refine ⟨_,rfl,?_⟩;have n0_ := Aside0.mk (Kd.R_below (by (with_reducible repeat (first | apply Kd.R_alloc | apply Kd.R_drewN | apply Kd.R_drew));exact HO287.out) hb);have n1_ := Aside0.mk (Kd.R_elder' (by (with_reducible repeat (first | apply Kd.R_alloc | apply Kd.R_drewN | apply Kd.R_drew));exact HO294.out) (Kd.R_base ho0) hb);have n2_ := Aside0.mk (Kd.R_elder' (by (with_reducible repeat (first | apply Kd.R_alloc | apply Kd.R_drewN | apply Kd.R_drew));exact HO297.out) (Kd.R_base ho0) hb);have n3_ := Aside0.mk (Kd.R_lower (Kd.R_new' (Kd.R_new' ho0 (Kd.R_lt (by (with_reducible repeat (first | apply Kd.R_alloc | apply Kd.R_drewN | apply Kd.R_drew));exact HO294.out))) (Kd.R_lt (by (with_reducible repeat (first | apply Kd.R_alloc | apply Kd.R_drewN | apply Kd.R_drew));exact HO297.out))) (below_size (by repeat (first | (with_reducible first | exact HB.out | apply below_alloc | apply pw_below_drewN | apply below_drew1 | refine below_set ?_ GE281.out) | exact HB.out))));have n4_ := Aside0.mk (blk_below (g:=gb281) (o:=.cells #[.int .i64 a1_0, .int .i64 a1_1] 24 (0,0)) (by (with_reducible repeat (first | refine blk_drewN ?_ _ | refine blk_drew ?_ | refine blk_alloc ?_ _));exact BK281.out) hb);have n5_ := Aside0.mk (Kd.C_below (by repeat (first | (with_reducible exact HR291.out) | (with_reducible refine Kd.C_alloc ?_ _) | (with_reducible refine Kd.C_drewN ?_ _) | (with_reducible refine Kd.C_drew ?_) | exact HR291.out)) hb);have n6_ := Aside0.mk (below_step (by repeat (first | (with_reducible first | exact HB.out | apply below_alloc | apply pw_below_drewN | apply below_drew1 | refine below_set ?_ GE281.out) | exact HB.out)) hb);clear HO287;clear HO294;clear HO297;clear BK281;clear HR291;clear HB;have HO287 := n0_;have HO294 := n1_;have HO297 := n2_;have HO300 := n3_;have BK281 := n4_;have HR291 := n5_;have HB := n6_;clear n0_ n1_ n2_ n3_ n4_ n5_ n6_;(try clear hb);(try clear hb2);(try clear hk);(try clear hi);(try clear ho0);have hcz43_0 : w42.cell? ⟨gb281,0,none⟩ = some (.int .i64 a1_0) := (blk_cell BK281.out 0).trans rfl;have hcz43_1 : w42.cell? ⟨gb281,1,none⟩ = some (.int .i64 a1_1) := (blk_cell BK281.out 1).trans rfl;have hfz43_0 := blk_frozen BK281.out 0;have hfz43_1 := blk_frozen BK281.out 1) | ((with_reducible refine gate_callee (f:=21) rfl ?_);refine goesL_ (some 51) rfl rfl Try.func21 (by kernel_rfl) rfl #[.slice Ao37 y288.length co37, .agg #[.int .i64 a1_0, .int .i64 a1_1], .int .i64 a2, .int .i64 a3] rfl (by (try simp only [List.map_toArray,List.map_cons,List.map_nil]);first | done | rfl | (simp only [List.length_drop,List.length_take];rfl)) ?_;(with_reducible refine (aging_Missed.calls kj5 _ _ y288 a1_0 a1_1 a2 a3 t301 _ ?side1 ?side2 A17.out).mono ?_);(case side1 => repeat (first | exact (by repeat (first | (with_reducible exact HR291.out) | (with_reducible refine Kd.C_alloc ?_ _) | (with_reducible refine Kd.C_drewN ?_ _) | (with_reducible refine Kd.C_drew ?_) | exact HR291.out)) | (with_reducible refine Kd.C_alloc ?_ _) | (with_reducible refine Kd.C_drewN ?_ _) | (with_reducible refine Kd.C_drew ?_)));(case side2 => exact HC291.out);rintro e w44 ⟨v302,rfl,ho0,hb⟩;refine ⟨_,rfl,?_⟩;have n0_ := Aside0.mk (Kd.R_below (by (with_reducible repeat (first | apply Kd.R_alloc | apply Kd.R_drewN | apply Kd.R_drew));exact HO287.out) hb);have n1_ := Aside0.mk (Kd.R_elder' (by (with_reducible repeat (first | apply Kd.R_alloc | apply Kd.R_drewN | apply Kd.R_drew));exact HO294.out) (Kd.R_base ho0) hb);have n2_ := Aside0.mk (Kd.R_elder' (by (with_reducible repeat (first | apply Kd.R_alloc | apply Kd.R_drewN | apply Kd.R_drew));exact HO297.out) (Kd.R_base ho0) hb);have n3_ := Aside0.mk (Kd.R_elder' (by (with_reducible repeat (first | apply Kd.R_alloc | apply Kd.R_drewN | apply Kd.R_drew));exact HO300.out) (Kd.R_base ho0) hb);have n4_ := Aside0.mk (Kd.R_lower (Kd.R_new' (Kd.R_new' (Kd.R_new' ho0 (Kd.R_lt (by (with_reducible repeat (first | apply Kd.R_alloc | apply Kd.R_drewN | apply Kd.R_drew));exact HO294.out))) (Kd.R_lt (by (with_reducible repeat (first | apply Kd.R_alloc | apply Kd.R_drewN | apply Kd.R_drew));exact HO297.out))) (Kd.R_lt (by (with_reducible repeat (first | apply Kd.R_alloc | apply Kd.R_drewN | apply Kd.R_drew));exact HO300.out))) (below_size (by repeat (first | (with_reducible first | exact HB.out | apply below_alloc | apply pw_below_drewN | apply below_drew1 | refine below_set ?_ GE281.out) | exact HB.out))));have n5_ := Aside0.mk (blk_below (g:=gb281) (o:=.cells #[.int .i64 a1_0, .int .i64 a1_1] 24 (0,0)) (by (with_reducible repeat (first | refine blk_drewN ?_ _ | refine blk_drew ?_ | refine blk_alloc ?_ _));exact BK281.out) hb);have n6_ := Aside0.mk (Kd.C_below (by repeat (first | (with_reducible exact HR291.out) | (with_reducible refine Kd.C_alloc ?_ _) | (with_reducible refine Kd.C_drewN ?_ _) | (with_reducible refine Kd.C_drew ?_) | exact HR291.out)) hb);have n7_ := Aside0.mk (below_step (by repeat (first | (with_reducible first | exact HB.out | apply below_alloc | apply pw_below_drewN | apply below_drew1 | refine below_set ?_ GE281.out) | exact HB.out)) hb);clear HO287;clear HO294;clear HO297;clear HO300;clear BK281;clear HR291;clear HB;have HO287 := n0_;have HO294 := n1_;have HO297 := n2_;have HO300 := n3_;have HO303 := n4_;have BK281 := n5_;have HR291 := n6_;have HB := n7_;clear n0_ n1_ n2_ n3_ n4_ n5_ n6_ n7_;(try clear hb);(try clear hb2);(try clear hk);(try clear hi);(try clear ho0);obtain ⟨Ao45,co45,eo45⟩ := Kd.R_slice HO300.out;subst eo45;obtain ⟨Ao46,co46,eo46⟩ := Kd.R_slice HO297.out;subst eo46) | ((with_reducible refine gate_callee (f:=24) rfl ?_);refine goesL_ (some 54) rfl rfl Try.func24 (by kernel_rfl) rfl #[.slice Ao45 t298.length co45, .slice Ao46 t295.length co46] rfl (by (try simp only [List.map_toArray,List.map_cons,List.map_nil]);first | done | rfl | (simp only [List.length_drop,List.length_take];rfl)) ?_;(with_reducible refine (arrearslaw10_sameRows.calls kj5 _ _ t298 _ _ t295 true _ ?side1 ?side2 ?side3 ?side4 A18.out).mono ?_);(case side1 => repeat (first | exact (Kd.R_reads' HO300.out).2.2 | (with_reducible refine Kd.C_alloc ?_ _) | (with_reducible refine Kd.C_drewN ?_ _) | (with_reducible refine Kd.C_drew ?_)));(case side2 => exact (Kd.R_reads' HO300.out).2.1);(case side3 => repeat (first | exact (Kd.R_reads' HO297.out).2.2 | (with_reducible refine Kd.C_alloc ?_ _) | (with_reducible refine Kd.C_drewN ?_ _) | (with_reducible refine Kd.C_drew ?_)));(case side4 => exact (Kd.R_reads' HO297.out).2.1);rintro e w' ⟨rfl,⟨nd,rfl⟩⟩;refine ⟨_,rfl,?_⟩;obtain ⟨Ao47,co47,eo47⟩ := Kd.R_slice HO303.out;subst eo47) | (go_at_call 24;(with_reducible refine (arrearslaw10_sameRows.calls kj5 _ _ t301 _ _ t295 true _ ?side1 ?side2 ?side3 ?side4 A20.out).mono ?_);(case side1 => repeat (first | exact (Kd.R_reads' HO303.out).2.2 | (with_reducible refine Kd.C_alloc ?_ _) | (with_reducible refine Kd.C_drewN ?_ _) | (with_reducible refine Kd.C_drew ?_)));(case side2 => exact (Kd.R_reads' HO303.out).2.1);(case side3 => repeat (first | exact (Kd.R_reads' HO297.out).2.2 | (with_reducible refine Kd.C_alloc ?_ _) | (with_reducible refine Kd.C_drewN ?_ _) | (with_reducible refine Kd.C_drew ?_)));(case side4 => exact (Kd.R_reads' HO297.out).2.1);rintro e w' ⟨rfl,⟨nd,rfl⟩⟩) | (go_at_call 25;(with_reducible refine (arrearslaw10_alone.calls kj5 (fun k_ => some k_ = (.slice Ao45 t298.length co45 : Value).ownBlock) (.slice Ao45 t298.length co45) t298 _ _ t301 _ _ t295 true w _ ?side1 ?side2 ?side3 ?side4 ?side5 ?side6 A22.out).mono ?_);(case side1 => repeat (first | (with_reducible first | exact HB.out | apply below_alloc | apply pw_below_drewN | apply below_drew1 | refine below_set ?_ GE281.out) | exact HB.out));(case side2 => exact Kd.R_tight rfl HO300.out);(case side3 => exact Kd.C_kept_own (HO303.out) (fun k_ hk_ hs_ => (hk_.2) hs_));(case side4 => exact (Kd.R_reads' HO303.out).2.1);(case side5 => exact Kd.C_kept_own (HO297.out) (fun k_ hk_ hs_ => (hk_.1.2) hs_));(case side6 => exact (Kd.R_reads' HO297.out).2.1);rintro e w48 ⟨rfl,hb,hkp⟩;have n0_ := Aside0.mk (blk_kept (by (with_reducible repeat (first | refine blk_drewN ?_ _ | refine blk_drew ?_ | refine blk_alloc ?_ _));exact BK281.out) hkp (fun hs_ => (fun e_ => (Kd.R_ne HO300.out BK281.out (by decide)) e_) hs_));have n1_ := Aside0.mk (Kd.R_mono (ok' := fun k_ => True) (Kd.R_keptB ((Kd.R_apart' HO287.out (Kd.R_typed HO300.out) (by decide))) hkp (fun k_ hk_ hs_ => (hk_.2) hs_)) (fun k_ hk_ => trivial));have n2_ := Aside0.mk (Kd.R_mono (ok' := fun k_ => some k_ ≠ (.slice Ao46 t295.length co46 : Value).ownBlock ∧ some k_ ≠ (.slice Ao47 t301.length co47 : Value).ownBlock) (Kd.R_keptB (HO294.out) hkp (fun k_ hk_ hs_ => (hk_.1.2) hs_)) (fun k_ hk_ => ⟨hk_.1.1.1.2,hk_.1.2⟩));have n3_ := Aside0.mk (Kd.R_mono (ok' := fun k_ => some k_ ≠ (v293 : Value).ownBlock ∧ some k_ ≠ (.slice Ao47 t301.length co47 : Value).ownBlock) (Kd.R_keptB (HO297.out) hkp (fun k_ hk_ hs_ => (hk_.1.2) hs_)) (fun k_ hk_ => ⟨hk_.1.1.1.2,hk_.1.2⟩));have n4_ := Aside0.mk (Kd.R_mono (ok' := fun k_ => some k_ ≠ (v293 : Value).ownBlock ∧ some k_ ≠ (.slice Ao46 t295.length co46 : Value).ownBlock) (Kd.R_keptB (HO303.out) hkp (fun k_ hk_ hs_ => (hk_.2) hs_)) (fun k_ hk_ => ⟨hk_.1.1.1.2,hk_.1.1.2⟩));have n5_ := Aside0.mk ((show Kd.C k31 w48 Ao37 y288.length y288 from by rw [Ny288.out];exact Kd.C_take (m:=((l0.length : Int) : Int).toNat) ((Kd.R_reads' (Kd.R_mono (ok' := fun k_ => True) (Kd.R_keptB ((Kd.R_apart' HO287.out (Kd.R_typed HO300.out) (by decide))) hkp (fun k_ hk_ hs_ => (hk_.2) hs_)) (fun k_ hk_ => trivial))).2.2) KL36.out));have n6_ := Aside0.mk (hb);clear BK281;clear HO287;clear HO294;clear HO297;clear HO303;clear HR291;clear HB;clear HO300;have BK281 := n0_;have HO287 := n1_;have HO294 := n2_;have HO297 := n3_;have HO303 := n4_;have HR291 := n5_;have HB := n6_;clear n0_ n1_ n2_ n3_ n4_ n5_ n6_;(try clear hb);(try clear hkp)) | ((with_reducible refine gate_callee (f:=27) rfl ?_);refine goesL_ (some 73) rfl rfl Try.func27 (by kernel_rfl) rfl #[.slice A0 l0.length c0, .slice A4 l4.length c4] rfl (by (try simp only [List.map_toArray,List.map_cons,List.map_nil]);first | done | rfl | (simp only [List.length_drop,List.length_take];rfl)) ?_;(with_reducible refine (arrearsref10_Mark.calls kj5 _ _ l0 _ _ l4 t307 _ ?side1 ?side2 ?side3 ?side4 A24.out).mono ?_);(case side1 => repeat (first | exact (Kd.C_below HR0.out HB.out) | (with_reducible refine Kd.C_alloc ?_ _) | (with_reducible refine Kd.C_drewN ?_ _) | (with_reducible refine Kd.C_drew ?_)));(case side2 => exact HC0.out);(case side3 => repeat (first | exact (Kd.C_below HR4.out HB.out) | (with_reducible refine Kd.C_alloc ?_ _) | (with_reducible refine Kd.C_drewN ?_ _) | (with_reducible refine Kd.C_drew ?_)));(case side4 => exact HC4.out);rintro e w49 ⟨v308,rfl,ho0,hb⟩;refine ⟨_,rfl,?_⟩;have n0_ := Aside0.mk (Kd.R_elder' (by (with_reducible repeat (first | apply Kd.R_alloc | apply Kd.R_drewN | apply Kd.R_drew));exact HO287.out) (Kd.R_base ho0) hb);have n1_ := Aside0.mk (Kd.R_below (by (with_reducible repeat (first | apply Kd.R_alloc | apply Kd.R_drewN | apply Kd.R_drew));exact HO294.out) hb);have n2_ := Aside0.mk (Kd.R_below (by (with_reducible repeat (first | apply Kd.R_alloc | apply Kd.R_drewN | apply Kd.R_drew));exact HO297.out) hb);have n3_ := Aside0.mk (Kd.R_below (by (with_reducible repeat (first | apply Kd.R_alloc | apply Kd.R_drewN | apply Kd.R_drew));exact HO303.out) hb);have n4_ := Aside0.mk (Kd.R_lower (Kd.R_new' ho0 (Kd.R_lt (by (with_reducible repeat (first | apply Kd.R_alloc | apply Kd.R_drewN | apply Kd.R_drew));exact HO287.out))) (below_size (by repeat (first | (with_reducible first | exact HB.out | apply below_alloc | apply pw_below_drewN | apply below_drew1 | refine below_set ?_ GE281.out) | exact HB.out))));have n5_ := Aside0.mk (blk_below (g:=gb281) (o:=.cells #[.int .i64 a1_0, .int .i64 a1_1] 24 (0,0)) (by (with_reducible repeat (first | refine blk_drewN ?_ _ | refine blk_drew ?_ | refine blk_alloc ?_ _));exact BK281.out) hb);have n6_ := Aside0.mk (Kd.C_below (by repeat (first | (with_reducible exact HR291.out) | (with_reducible refine Kd.C_alloc ?_ _) | (with_reducible refine Kd.C_drewN ?_ _) | (with_reducible refine Kd.C_drew ?_) | exact HR291.out)) hb);have n7_ := Aside0.mk (below_step (by repeat (first | (with_reducible first | exact HB.out | apply below_alloc | apply pw_below_drewN | apply below_drew1 | refine below_set ?_ GE281.out) | exact HB.out)) hb);clear HO287;clear HO294;clear HO297;clear HO303;clear BK281;clear HR291;clear HB;have HO287 := n0_;have HO294 := n1_;have HO297 := n2_;have HO303 := n3_;have HO309 := n4_;have BK281 := n5_;have HR291 := n6_;have HB := n7_;clear n0_ n1_ n2_ n3_ n4_ n5_ n6_ n7_;(try clear hb);(try clear hb2);(try clear hk);(try clear hi);(try clear ho0);obtain ⟨Ao50,co50,eo50⟩ := Kd.R_slice HO294.out;subst eo50;obtain ⟨Ao51,co51,eo51⟩ := Kd.R_slice HO309.out;subst eo51) | ((with_reducible refine gate_callee (f:=26) rfl ?_);refine goesL_ (some 74) rfl rfl Try.func26 (by kernel_rfl) rfl #[.slice Ao37 y288.length co37, .slice Ao50 y292.length co50, .slice Ao51 t307.length co51] rfl (by (try simp only [List.map_toArray,List.map_cons,List.map_nil]);first | done | rfl | (simp only [List.length_drop,List.length_take];rfl)) ?_;(with_reducible refine (arrearslaw10_marksRight.calls kj5 _ _ y288 _ _ y292 _ _ t307 true _ ?side1 ?side2 ?side3 ?side4 ?side5 ?side6 A25.out).mono ?_);(case side1 => repeat (first | exact (by repeat (first | (with_reducible exact HR291.out) | (with_reducible refine Kd.C_alloc ?_ _) | (with_reducible refine Kd.C_drewN ?_ _) | (with_reducible refine Kd.C_drew ?_) | exact HR291.out)) | (with_reducible refine Kd.C_alloc ?_ _) | (with_reducible refine Kd.C_drewN ?_ _) | (with_reducible refine Kd.C_drew ?_)));(case side2 => exact HC291.out);(case side3 => repeat (first | exact (Kd.R_reads' HO294.out).2.2 | (with_reducible refine Kd.C_alloc ?_ _) | (with_reducible refine Kd.C_drewN ?_ _) | (with_reducible refine Kd.C_drew ?_)));(case side4 => exact (Kd.R_reads' HO294.out).2.1);(case side5 => repeat (first | exact (Kd.R_reads' HO309.out).2.2 | (with_reducible refine Kd.C_alloc ?_ _) | (with_reducible refine Kd.C_drewN ?_ _) | (with_reducible refine Kd.C_drew ?_)));(case side6 => exact (Kd.R_reads' HO309.out).2.1);rintro e w52 ⟨rfl,hb⟩;refine ⟨_,rfl,?_⟩;have n0_ := Aside0.mk (Kd.R_below (by (with_reducible repeat (first | apply Kd.R_alloc | apply Kd.R_drewN | apply Kd.R_drew));exact HO287.out) hb);have n1_ := Aside0.mk (Kd.R_below (by (with_reducible repeat (first | apply Kd.R_alloc | apply Kd.R_drewN | apply Kd.R_drew));exact HO294.out) hb);have n2_ := Aside0.mk (Kd.R_below (by (with_reducible repeat (first | apply Kd.R_alloc | apply Kd.R_drewN | apply Kd.R_drew));exact HO297.out) hb);have n3_ := Aside0.mk (Kd.R_below (by (with_reducible repeat (first | apply Kd.R_alloc | apply Kd.R_drewN | apply Kd.R_drew));exact HO303.out) hb);have n4_ := Aside0.mk (Kd.R_below (by (with_reducible repeat (first | apply Kd.R_alloc | apply Kd.R_drewN | apply Kd.R_drew));exact HO309.out) hb);have n5_ := Aside0.mk (blk_below (g:=gb281) (o:=.cells #[.int .i64 a1_0, .int .i64 a1_1] 24 (0,0)) (by (with_reducible repeat (first | refine blk_drewN ?_ _ | refine blk_drew ?_ | refine blk_alloc ?_ _));exact BK281.out) hb);have n6_ := Aside0.mk (Kd.C_below (by repeat (first | (with_reducible exact HR291.out) | (with_reducible refine Kd.C_alloc ?_ _) | (with_reducible refine Kd.C_drewN ?_ _) | (with_reducible refine Kd.C_drew ?_) | exact HR291.out)) hb);have n7_ := Aside0.mk (below_step (by repeat (first | (with_reducible first | exact HB.out | apply below_alloc | apply pw_below_drewN | apply below_drew1 | refine below_set ?_ GE281.out) | exact HB.out)) hb);clear HO287;clear HO294;clear HO297;clear HO303;clear HO309;clear BK281;clear HR291;clear HB;have HO287 := n0_;have HO294 := n1_;have HO297 := n2_;have HO303 := n3_;have HO309 := n4_;have BK281 := n5_;have HR291 := n6_;have HB := n7_;clear n0_ n1_ n2_ n3_ n4_ n5_ n6_ n7_;(try clear hb);(try clear hb2);(try clear hk);(try clear hi)) | (go_at_call 18;(with_reducible refine (arrearslaw10_samePlan.calls kj5 _ _ y288 _ _ l0 true _ ?side1 ?side2 ?side3 ?side4 A27.out).mono ?_);(case side1 => repeat (first | exact (by repeat (first | (with_reducible exact HR291.out) | (with_reducible refine Kd.C_alloc ?_ _) | (with_reducible refine Kd.C_drewN ?_ _) | (with_reducible refine Kd.C_drew ?_) | exact HR291.out)) | (with_reducible refine Kd.C_alloc ?_ _) | (with_reducible refine Kd.C_drewN ?_ _) | (with_reducible refine Kd.C_drew ?_)));(case side2 => exact HC291.out);(case side3 => repeat (first | exact (Kd.C_below HR0.out HB.out) | (with_reducible refine Kd.C_alloc ?_ _) | (with_reducible refine Kd.C_drewN ?_ _) | (with_reducible refine Kd.C_drew ?_)));(case side4 => exact HC0.out);rintro e w' ⟨rfl,⟨nd,rfl⟩⟩) | (go_at_call 24;(with_reducible refine (arrearslaw10_sameRows.calls kj5 _ _ y292 _ _ l4 true _ ?side1 ?side2 ?side3 ?side4 A29.out).mono ?_);(case side1 => repeat (first | exact (Kd.R_reads' HO294.out).2.2 | (with_reducible refine Kd.C_alloc ?_ _) | (with_reducible refine Kd.C_drewN ?_ _) | (with_reducible refine Kd.C_drew ?_)));(case side2 => exact (Kd.R_reads' HO294.out).2.1);(case side3 => repeat (first | exact (Kd.C_below HR4.out (by repeat (first | (with_reducible first | exact HB.out | apply below_alloc | apply pw_below_drewN | apply below_drew1 | refine below_set ?_ GE281.out) | exact HB.out))) | (with_reducible refine Kd.C_alloc ?_ _) | (with_reducible refine Kd.C_drewN ?_ _) | (with_reducible refine Kd.C_drew ?_)));(case side4 => exact HC4.out);rintro e w' ⟨rfl,⟨nd,rfl⟩⟩;have p313 : 0 ≤ ((l0.length : Int) : Int) := of_decide_eq_true (by first | (with_reducible assumption) | assumption);have q313 : (l0.length : Int) < (y285.length : Int) := of_decide_eq_true (by first | (with_reducible assumption) | assumption);obtain ⟨ad313,e313,hx313_0,hx313_1,hx313_2,hx313_3⟩ := at_T31 (Kd.R_reads' HO287.out).2.2 (l0.length : Int) p313 q313;cases e313;(try simp only [Go.IntWalk.toNatUp] at hx313_0);(try simp only [Go.IntWalk.toNatUp] at hx313_1);(try simp only [Go.IntWalk.toNatUp] at hx313_2);(try simp only [Go.IntWalk.toNatUp] at hx313_3);replace p313 := eq_true p313;replace q313 := eq_true q313;have hcz53_0 : w52.cell? ⟨gb281,0,none⟩ = some (.int .i64 a1_0) := (blk_cell BK281.out 0).trans rfl;have hcz53_1 : w52.cell? ⟨gb281,1,none⟩ = some (.int .i64 a1_1) := (blk_cell BK281.out 1).trans rfl;have hfz53_0 := blk_frozen BK281.out 0;have hfz53_1 := blk_frozen BK281.out 1) | (go_at_call 28;(with_reducible refine (arrearslaw10_anew.calls kj5 _ _ l0 a1_0 a1_1 a2 a3 _ _ l4 t314 _ ?side1 ?side2 ?side3 ?side4 A33.out).mono ?_);(case side1 => repeat (first | exact (Kd.C_below HR0.out (by repeat (first | (with_reducible first | exact HB.out | apply below_alloc | apply pw_below_drewN | apply below_drew1 | refine below_set ?_ GE281.out) | exact HB.out))) | (with_reducible refine Kd.C_alloc ?_ _) | (with_reducible refine Kd.C_drewN ?_ _) | (with_reducible refine Kd.C_drew ?_)));(case side2 => exact HC0.out);(case side3 => repeat (first | exact (Kd.C_below HR4.out (by repeat (first | (with_reducible first | exact HB.out | apply below_alloc | apply pw_below_drewN | apply below_drew1 | refine below_set ?_ GE281.out) | exact HB.out))) | (with_reducible refine Kd.C_alloc ?_ _) | (with_reducible refine Kd.C_drewN ?_ _) | (with_reducible refine Kd.C_drew ?_)));(case side4 => exact HC4.out);rintro e w54 ⟨rfl,hb⟩;have n0_ := Aside0.mk (Kd.R_below (by (with_reducible repeat (first | apply Kd.R_alloc | apply Kd.R_drewN | apply Kd.R_drew));exact HO287.out) hb);have n1_ := Aside0.mk (Kd.R_below (by (with_reducible repeat (first | apply Kd.R_alloc | apply Kd.R_drewN | apply Kd.R_drew));exact HO294.out) hb);have n2_ := Aside0.mk (Kd.R_below (by (with_reducible repeat (first | apply Kd.R_alloc | apply Kd.R_drewN | apply Kd.R_drew));exact HO297.out) hb);have n3_ := Aside0.mk (Kd.R_below (by (with_reducible repeat (first | apply Kd.R_alloc | apply Kd.R_drewN | apply Kd.R_drew));exact HO303.out) hb);have n4_ := Aside0.mk (Kd.R_below (by (with_reducible repeat (first | apply Kd.R_alloc | apply Kd.R_drewN | apply Kd.R_drew));exact HO309.out) hb);have n5_ := Aside0.mk (blk_below (g:=gb281) (o:=.cells #[.int .i64 a1_0, .int .i64 a1_1] 24 (0,0)) (by (with_reducible repeat (first | refine blk_drewN ?_ _ | refine blk_drew ?_ | refine blk_alloc ?_ _));exact BK281.out) hb);have n6_ := Aside0.mk (Kd.C_below (by repeat (first | (with_reducible exact HR291.out) | (with_reducible refine Kd.C_alloc ?_ _) | (with_reducible refine Kd.C_drewN ?_ _) | (with_reducible refine Kd.C_drew ?_) | exact HR291.out)) hb);have n7_ := Aside0.mk (below_step (by repeat (first | (with_reducible first | exact HB.out | apply below_alloc | apply pw_below_drewN | apply below_drew1 | refine below_set ?_ GE281.out) | exact HB.out)) hb);clear HO287;clear HO294;clear HO297;clear HO303;clear HO309;clear BK281;clear HR291;clear HB;have HO287 := n0_;have HO294 := n1_;have HO297 := n2_;have HO303 := n3_;have HO309 := n4_;have BK281 := n5_;have HR291 := n6_;have HB := n7_;clear n0_ n1_ n2_ n3_ n4_ n5_ n6_ n7_;(try clear hb);(try clear hb2);(try clear hk);(try clear hi)))
                go_ret
                exact ⟨by first | rfl | (simp [errW_none,errW_some] <;> rfl) | (simp [*,errW_none,errW_some] <;> rfl),by repeat (first | (with_reducible first | exact HB.out | apply below_alloc | apply pw_below_drewN | apply below_drew1 | refine below_set ?_ GE281.out) | exact HB.out)⟩
               ·
                rw [if_neg c32] at H
                exact absurd H (by simp)
              ·
               rw [if_neg c31] at H
               exact absurd H (by simp)
             ·
              replace c30 := Bool.eq_false_iff.mpr c30
              subst c30
              have H1 : (none) = some r := by rw [if_neg (show ¬ (false = true) by decide)] at H;exact H
              clear H
              have H := H1
              clear H1
              exact absurd H (by simp)
            ·
             replace c28 := Bool.eq_false_iff.mpr c28
             subst c28
             have H1 : (none) = some r := by rw [if_neg (show ¬ (false = true) by decide)] at H;exact H
             clear H
             have H := H1
             clear H1
             exact absurd H (by simp)
           ·
            replace c26 := Bool.eq_false_iff.mpr c26
            subst c26
            have H1 : (none) = some r := by rw [if_neg (show ¬ (false = true) by decide)] at H;exact H
            clear H
            have H := H1
            clear H1
            exact absurd H (by simp)
          ·
           replace c23 := Bool.eq_false_iff.mpr c23
           subst c23
           have H1 : (none) = some r := by rw [if_neg (show ¬ (false = true) by decide)] at H;exact H
           clear H
           have H := H1
           clear H1
           exact absurd H (by simp)
         ·
          replace c21 := Bool.eq_false_iff.mpr c21
          subst c21
          have H1 : (none) = some r := by rw [if_neg (show ¬ (false = true) by decide)] at H;exact H
          clear H
          have H := H1
          clear H1
          exact absurd H (by simp)
        ·
         replace c19 := Bool.eq_false_iff.mpr c19
         subst c19
         have H1 : (none) = some r := by rw [if_neg (show ¬ (false = true) by decide)] at H;exact H
         clear H
         have H := H1
         clear H1
         exact absurd H (by simp)
       ·
        rw [if_neg c14] at H
        exact absurd H (by simp)
      ·
       rw [if_neg c13] at H
       exact absurd H (by simp)
     ·
      rw [if_neg c12] at H
      exact absurd H (by simp)
    ·
     rw [if_neg c11] at H
     exact absurd H (by simp)

/-! ### arrearslaw10_AgingReach: function 4 -/
def arrearslaw10_AgingReach.f (k : Nat) (l0 : List (S31)) (a1_0 : Int) (a1_1 : Int) (a2 : Int) (a3 : Int) : Option (Bool) := if (l0.length : Int) > 400 then (some true) else ((arrearslaw10_copied.f l0).bind fun t316 => ((aging_Reach.f k t316 a1_0 a1_1 a2 a3).bind fun bt319 => ((arrearsref10_Reach.f k l0 a1_0 a1_1 a2 a3).bind fun bt321 => (if bt319.1 = bt321.1 then (if (bt319.2 == bt321.2) = true then ((arrearslaw10_samePlan.f k t316 l0).bind fun t323 => (some t323)) else (some false)) else (some false)))))
theorem arrearslaw10_AgingReach.mono : ∀ a0 a1 a2 a3 a4 k,LeO (arrearslaw10_AgingReach.f k a0 a1 a2 a3 a4) (arrearslaw10_AgingReach.f (k + 1) a0 a1 a2 a3 a4) := by
 intro a0 a1 a2 a3 a4 k
 unfold arrearslaw10_AgingReach.f
 repeat' first
   | (with_reducible exact aging_Reach.mono _ _ _ _ _ _)
   | (with_reducible exact arrearslaw10_samePlan.mono _ _ _)
   | (with_reducible exact arrearsref10_Reach.mono _ _ _ _ _ _)
   | (with_reducible exact LeO.refl _)
   | (with_reducible exact LeO.none _)
   | (with_reducible refine LeO.ite ?_ ?_)
   | (with_reducible refine LeO.bind ?_ (fun _ => ?_))
   | exact aging_Reach.mono _ _ _ _ _ _
   | exact arrearslaw10_samePlan.mono _ _ _
   | exact arrearsref10_Reach.mono _ _ _ _ _ _
   | exact LeO.none _
   | refine LeO.ite ?_ ?_
   | refine LeO.bind ?_ (fun _ => ?_)
set_option maxHeartbeats 8000000 in
set_option maxRecDepth 100000 in
theorem arrearslaw10_AgingReach.calls (k : Nat) (A0 : Option Addr) (c0 : Nat) (l0 : List (S31)) (a1_0 : Int) (a1_1 : Int) (a2 : Int) (a3 : Int) (r : Bool) (w : World) (hr0 : Kd.C k31 w A0 l0.length l0) (hc0 : l0.length ≤ c0) (h : arrearslaw10_AgingReach.f k l0 a1_0 a1_1 a2 a3 = some r) :
  Calls Try.prog 4 #[.slice A0 l0.length c0, .agg #[.int .i64 a1_0, .int .i64 a1_1], .int .i64 a2, .int .i64 a3] w fun e w' => e = .returned (.bool r) ∧ Below w.heap.size w w' := by
 have hu24 := Try.underlying24
 have HR0 := Aside0.mk hr0
 have HC0 := Aside0.mk hc0
 clear hr0 hc0
 have HB := Aside0.mk (Below.refl w.heap.size w)
 have H : (if (l0.length : Int) > 400 then (some true) else ((arrearslaw10_copied.f l0).bind fun t316 => ((aging_Reach.f k t316 a1_0 a1_1 a2 a3).bind fun bt319 => ((arrearsref10_Reach.f k l0 a1_0 a1_1 a2 a3).bind fun bt321 => (if bt319.1 = bt321.1 then (if (bt319.2 == bt321.2) = true then ((arrearslaw10_samePlan.f k t316 l0).bind fun t323 => (some t323)) else (some false)) else (some false)))))) = some r := h
 clear h
 by_cases c5 : (l0.length : Int) > 400
 ·
  rw [if_pos c5] at H
  have c5b0 : decide (400 < (l0.length : Int)) = true := decide_eq_true c5
  have c5b1 : decide (400 < l0.length) = true := decide_eq_true (by omega)
  clear c5
  obtain rfl := Option.some.inj H
  go_enter Try.func4,Try.ntmps4
  go_wp2_with (first | ((with_reducible refine gate_dst (N:=5) rfl ?_);refine box_event ?hg (N:=5) ?hd (cs:=#[.int .i64 a1_0, .int .i64 a1_1]) (t:=24) ?hr ?_;(case hd => rfl);(case hg => rfl);(case hr => first | (go_simp;done) | (go_simp;rfl));intro gb315 hg w6 hbox hb;have n0_ := Aside0.mk (below_step (by repeat (first | (with_reducible first | exact HB.out | apply below_alloc | apply pw_below_drewN | apply below_drew1) | exact HB.out)) hb);have n1_ := Aside0.mk (hbox);have n2_ := Aside0.mk ((by rw [hg];exact (below_size (by repeat (first | (with_reducible first | exact HB.out | apply below_alloc | apply pw_below_drewN | apply below_drew1) | exact HB.out))) : w.heap.size ≤ gb315));have n3_ := Aside0.mk ((by rw [hg];exact (below_size (by repeat (first | (with_reducible first | exact HB.out | apply below_alloc | apply pw_below_drewN | apply below_drew1) | exact HB.out))) : w.heap.size ≤ gb315));clear HB;have HB := n0_;have BK315 := n1_;have GW315 := n2_;have GE315 := n3_;clear n0_ n1_ n2_ n3_;clear hb hbox hg))
  go_ret
  exact ⟨by first | rfl | (simp [errW_none,errW_some] <;> rfl) | (simp [*,errW_none,errW_some] <;> rfl),by repeat (first | (with_reducible first | exact HB.out | apply below_alloc | apply pw_below_drewN | apply below_drew1 | refine below_set ?_ GE315.out) | exact HB.out)⟩
 ·
  rw [if_neg c5] at H
  have c5b0 : decide (400 < (l0.length : Int)) = false := decide_eq_false c5
  have c5b1 : decide (400 < l0.length) = false := decide_eq_false (by omega)
  clear c5
  replace H := Option.bind_eq_some_iff.mp H
  obtain ⟨t316,A70,H⟩ := H
  replace H : ((aging_Reach.f k t316 a1_0 a1_1 a2 a3).bind fun bt319 => ((arrearsref10_Reach.f k l0 a1_0 a1_1 a2 a3).bind fun bt321 => (if bt319.1 = bt321.1 then (if (bt319.2 == bt321.2) = true then ((arrearslaw10_samePlan.f k t316 l0).bind fun t323 => (some t323)) else (some false)) else (some false)))) = some r := H
  have A7 := Aside0.mk A70
  clear A70
  replace H := Option.bind_eq_some_iff.mp H
  obtain ⟨⟨t319,t320⟩,A80,H⟩ := H
  replace H : ((arrearsref10_Reach.f k l0 a1_0 a1_1 a2 a3).bind fun bt321 => (if t319 = bt321.1 then (if (t320 == bt321.2) = true then ((arrearslaw10_samePlan.f k t316 l0).bind fun t323 => (some t323)) else (some false)) else (some false))) = some r := H
  have A8 := Aside0.mk A80
  clear A80
  replace H := Option.bind_eq_some_iff.mp H
  obtain ⟨⟨t321,t322⟩,A90,H⟩ := H
  replace H : (if t319 = t321 then (if (t320 == t322) = true then ((arrearslaw10_samePlan.f k t316 l0).bind fun t323 => (some t323)) else (some false)) else (some false)) = some r := H
  have A9 := Aside0.mk A90
  clear A90
  by_cases c10 : t319 = t321
  ·
   rw [if_pos c10] at H
   have c10b0 : (t319 == t321) = true := beq_iff_eq.mpr c10
   have c10b1 : (t319 != t321) = false := bne_eq_false_iff_eq.mpr c10
   clear c10
   by_cases c11 : (t320 == t322) = true
   ·
    rw [if_pos c11] at H
    have c11b0 : (t320 == t322) = true := c11
    (try (have c11b1 : decide (t320 = t322) = true := by simpa using c11))
    (try (have c11b2 : (t320 == t322) = true := by simpa using c11))
    clear c11
    replace H := Option.bind_eq_some_iff.mp H
    obtain ⟨t323,A120,H⟩ := H
    replace H : (some t323) = some r := H
    have A12 := Aside0.mk A120
    clear A120
    obtain rfl := Option.some.inj H
    go_enter Try.func4,Try.ntmps4
    go_wp2_with (first | ((with_reducible refine gate_dst (N:=5) rfl ?_);refine box_event ?hg (N:=5) ?hd (cs:=#[.int .i64 a1_0, .int .i64 a1_1]) (t:=24) ?hr ?_;(case hd => rfl);(case hg => rfl);(case hr => first | (go_simp;done) | (go_simp;rfl));intro gb315 hg w13 hbox hb;have n0_ := Aside0.mk (below_step (by repeat (first | (with_reducible first | exact HB.out | apply below_alloc | apply pw_below_drewN | apply below_drew1) | exact HB.out)) hb);have n1_ := Aside0.mk (hbox);have n2_ := Aside0.mk ((by rw [hg];exact (below_size (by repeat (first | (with_reducible first | exact HB.out | apply below_alloc | apply pw_below_drewN | apply below_drew1) | exact HB.out))) : w.heap.size ≤ gb315));have n3_ := Aside0.mk ((by rw [hg];exact (below_size (by repeat (first | (with_reducible first | exact HB.out | apply below_alloc | apply pw_below_drewN | apply below_drew1) | exact HB.out))) : w.heap.size ≤ gb315));clear HB;have HB := n0_;have BK315 := n1_;have GW315 := n2_;have GE315 := n3_;clear n0_ n1_ n2_ n3_;clear hb hbox hg) | ((with_reducible refine gate_callee (f:=14) rfl ?_);refine goesL_ (some 18) rfl rfl Try.func14 (by kernel_rfl) rfl #[.slice A0 l0.length c0] rfl (by (try simp only [List.map_toArray,List.map_cons,List.map_nil]);first | done | rfl | (simp only [List.length_drop,List.length_take];rfl)) ?_;(with_reducible refine (arrearslaw10_copied.calls _ _ l0 t316 _ ?side1 ?side2 A7.out).mono ?_);(case side1 => repeat (first | exact (Kd.C_below HR0.out HB.out) | (with_reducible refine Kd.C_alloc ?_ _) | (with_reducible refine Kd.C_drewN ?_ _) | (with_reducible refine Kd.C_drew ?_)));(case side2 => exact HC0.out);rintro e w14 ⟨v317,rfl,ho0,hb⟩;refine ⟨_,rfl,?_⟩;have n0_ := Aside0.mk (Kd.R_lower ho0 (below_size (by repeat (first | (with_reducible first | exact HB.out | apply below_alloc | apply pw_below_drewN | apply below_drew1 | refine below_set ?_ GE315.out) | exact HB.out))));have n1_ := Aside0.mk (blk_below (g:=gb315) (o:=.cells #[.int .i64 a1_0, .int .i64 a1_1] 24 (0,0)) (by (with_reducible repeat (first | refine blk_drewN ?_ _ | refine blk_drew ?_ | refine blk_alloc ?_ _));exact BK315.out) hb);have n2_ := Aside0.mk (below_step (by repeat (first | (with_reducible first | exact HB.out | apply below_alloc | apply pw_below_drewN | apply below_drew1 | refine below_set ?_ GE315.out) | exact HB.out)) hb);clear BK315;clear HB;have HO318 := n0_;have BK315 := n1_;have HB := n2_;clear n0_ n1_ n2_;(try clear hb);(try clear hb2);(try clear hk);(try clear hi);(try clear ho0);have hcz15_0 : w14.cell? ⟨gb315,0,none⟩ = some (.int .i64 a1_0) := (blk_cell BK315.out 0).trans rfl;have hcz15_1 : w14.cell? ⟨gb315,1,none⟩ = some (.int .i64 a1_1) := (blk_cell BK315.out 1).trans rfl;have hfz15_0 := blk_frozen BK315.out 0;have hfz15_1 := blk_frozen BK315.out 1;obtain ⟨Ao16,co16,eo16⟩ := Kd.R_slice HO318.out;subst eo16) | ((with_reducible refine gate_callee (f:=16) rfl ?_);refine goesL_ (some 24) rfl rfl Try.func16 (by kernel_rfl) rfl #[.slice Ao16 t316.length co16, .agg #[.int .i64 a1_0, .int .i64 a1_1], .int .i64 a2, .int .i64 a3] rfl (by (try simp only [List.map_toArray,List.map_cons,List.map_nil]);first | done | rfl | (simp only [List.length_drop,List.length_take];rfl)) ?_;(with_reducible refine (aging_Reach.calls k _ _ t316 a1_0 a1_1 a2 a3 t319 t320 _ ?side1 ?side2 A8.out).mono ?_);(case side1 => repeat (first | exact (Kd.R_reads' HO318.out).2.2 | (with_reducible refine Kd.C_alloc ?_ _) | (with_reducible refine Kd.C_drewN ?_ _) | (with_reducible refine Kd.C_drew ?_)));(case side2 => exact (Kd.R_reads' HO318.out).2.1);rintro e w17 ⟨rfl,hb⟩;refine ⟨_,rfl,?_⟩;have n0_ := Aside0.mk (Kd.R_below (by (with_reducible repeat (first | apply Kd.R_alloc | apply Kd.R_drewN | apply Kd.R_drew));exact HO318.out) hb);have n1_ := Aside0.mk (blk_below (g:=gb315) (o:=.cells #[.int .i64 a1_0, .int .i64 a1_1] 24 (0,0)) (by (with_reducible repeat (first | refine blk_drewN ?_ _ | refine blk_drew ?_ | refine blk_alloc ?_ _));exact BK315.out) hb);have n2_ := Aside0.mk (below_step (by repeat (first | (with_reducible first | exact HB.out | apply below_alloc | apply pw_below_drewN | apply below_drew1 | refine below_set ?_ GE315.out) | exact HB.out)) hb);clear HO318;clear BK315;clear HB;have HO318 := n0_;have BK315 := n1_;have HB := n2_;clear n0_ n1_ n2_;(try clear hb);(try clear hb2);(try clear hk);(try clear hi);have hcz18_0 : w17.cell? ⟨gb315,0,none⟩ = some (.int .i64 a1_0) := (blk_cell BK315.out 0).trans rfl;have hcz18_1 : w17.cell? ⟨gb315,1,none⟩ = some (.int .i64 a1_1) := (blk_cell BK315.out 1).trans rfl;have hfz18_0 := blk_frozen BK315.out 0;have hfz18_1 := blk_frozen BK315.out 1) | ((with_reducible refine gate_callee (f:=17) rfl ?_);refine goesL_ (some 32) rfl rfl Try.func17 (by kernel_rfl) rfl #[.slice A0 l0.length c0, .agg #[.int .i64 a1_0, .int .i64 a1_1], .int .i64 a2, .int .i64 a3] rfl (by (try simp only [List.map_toArray,List.map_cons,List.map_nil]);first | done | rfl | (simp only [List.length_drop,List.length_take];rfl)) ?_;(with_reducible refine (arrearsref10_Reach.calls k _ _ l0 a1_0 a1_1 a2 a3 t321 t322 _ ?side1 ?side2 A9.out).mono ?_);(case side1 => repeat (first | exact (Kd.C_below HR0.out HB.out) | (with_reducible refine Kd.C_alloc ?_ _) | (with_reducible refine Kd.C_drewN ?_ _) | (with_reducible refine Kd.C_drew ?_)));(case side2 => exact HC0.out);rintro e w19 ⟨rfl,hb⟩;refine ⟨_,rfl,?_⟩;have n0_ := Aside0.mk (Kd.R_below (by (with_reducible repeat (first | apply Kd.R_alloc | apply Kd.R_drewN | apply Kd.R_drew));exact HO318.out) hb);have n1_ := Aside0.mk (blk_below (g:=gb315) (o:=.cells #[.int .i64 a1_0, .int .i64 a1_1] 24 (0,0)) (by (with_reducible repeat (first | refine blk_drewN ?_ _ | refine blk_drew ?_ | refine blk_alloc ?_ _));exact BK315.out) hb);have n2_ := Aside0.mk (below_step (by repeat (first | (with_reducible first | exact HB.out | apply below_alloc | apply pw_below_drewN | apply below_drew1 | refine below_set ?_ GE315.out) | exact HB.out)) hb);clear HO318;clear BK315;clear HB;have HO318 := n0_;have BK315 := n1_;have HB := n2_;clear n0_ n1_ n2_;(try clear hb);(try clear hb2);(try clear hk);(try clear hi)) | (go_at_call 18;(with_reducible refine (arrearslaw10_samePlan.calls k _ _ t316 _ _ l0 t323 _ ?side1 ?side2 ?side3 ?side4 A12.out).mono ?_);(case side1 => repeat (first | exact (Kd.R_reads' HO318.out).2.2 | (with_reducible refine Kd.C_alloc ?_ _) | (with_reducible refine Kd.C_drewN ?_ _) | (with_reducible refine Kd.C_drew ?_)));(case side2 => exact (Kd.R_reads' HO318.out).2.1);(case side3 => repeat (first | exact (Kd.C_below HR0.out HB.out) | (with_reducible refine Kd.C_alloc ?_ _) | (with_reducible refine Kd.C_drewN ?_ _) | (with_reducible refine Kd.C_drew ?_)));(case side4 => exact HC0.out);rintro e w' ⟨rfl,⟨nd,rfl⟩⟩))
    go_ret
    exact ⟨by first | rfl | (simp [errW_none,errW_some] <;> rfl) | (simp [*,errW_none,errW_some] <;> rfl),by repeat (first | (with_reducible first | exact HB.out | apply below_alloc | apply pw_below_drewN | apply below_drew1 | refine below_set ?_ GE315.out) | exact HB.out)⟩
   ·
    rw [if_neg c11] at H
    have c11b0 : (t320 == t322) = false := by simpa using c11
    (try (have c11b1 : decide (t320 = t322) = false := by simpa using c11))
    (try (have c11b2 : (t320 == t322) = false := by simpa using c11))
    (try (have c11b3 : ¬ (t320 = t322) := by simpa using c11))
    clear c11
    obtain rfl := Option.some.inj H
    go_enter Try.func4,Try.ntmps4
    go_wp2_with (first | ((with_reducible refine gate_dst (N:=5) rfl ?_);refine box_event ?hg (N:=5) ?hd (cs:=#[.int .i64 a1_0, .int .i64 a1_1]) (t:=24) ?hr ?_;(case hd => rfl);(case hg => rfl);(case hr => first | (go_simp;done) | (go_simp;rfl));intro gb315 hg w20 hbox hb;have n0_ := Aside0.mk (below_step (by repeat (first | (with_reducible first | exact HB.out | apply below_alloc | apply pw_below_drewN | apply below_drew1) | exact HB.out)) hb);have n1_ := Aside0.mk (hbox);have n2_ := Aside0.mk ((by rw [hg];exact (below_size (by repeat (first | (with_reducible first | exact HB.out | apply below_alloc | apply pw_below_drewN | apply below_drew1) | exact HB.out))) : w.heap.size ≤ gb315));have n3_ := Aside0.mk ((by rw [hg];exact (below_size (by repeat (first | (with_reducible first | exact HB.out | apply below_alloc | apply pw_below_drewN | apply below_drew1) | exact HB.out))) : w.heap.size ≤ gb315));clear HB;have HB := n0_;have BK315 := n1_;have GW315 := n2_;have GE315 := n3_;clear n0_ n1_ n2_ n3_;clear hb hbox hg) | ((with_reducible refine gate_callee (f:=14) rfl ?_);refine goesL_ (some 18) rfl rfl Try.func14 (by kernel_rfl) rfl #[.slice A0 l0.length c0] rfl (by (try simp only [List.map_toArray,List.map_cons,List.map_nil]);first | done | rfl | (simp only [List.length_drop,List.length_take];rfl)) ?_;(with_reducible refine (arrearslaw10_copied.calls _ _ l0 t316 _ ?side1 ?side2 A7.out).mono ?_);(case side1 => repeat (first | exact (Kd.C_below HR0.out HB.out) | (with_reducible refine Kd.C_alloc ?_ _) | (with_reducible refine Kd.C_drewN ?_ _) | (with_reducible refine Kd.C_drew ?_)));(case side2 => exact HC0.out);rintro e w21 ⟨v317,rfl,ho0,hb⟩;refine ⟨_,rfl,?_⟩;have n0_ := Aside0.mk (Kd.R_lower ho0 (below_size (by repeat (first | (with_reducible first | exact HB.out | apply below_alloc | apply pw_below_drewN | apply below_drew1 | refine below_set ?_ GE315.out) | exact HB.out))));have n1_ := Aside0.mk (blk_below (g:=gb315) (o:=.cells #[.int .i64 a1_0, .int .i64 a1_1] 24 (0,0)) (by (with_reducible repeat (first | refine blk_drewN ?_ _ | refine blk_drew ?_ | refine blk_alloc ?_ _));exact BK315.out) hb);have n2_ := Aside0.mk (below_step (by repeat (first | (with_reducible first | exact HB.out | apply below_alloc | apply pw_below_drewN | apply below_drew1 | refine below_set ?_ GE315.out) | exact HB.out)) hb);clear BK315;clear HB;have HO318 := n0_;have BK315 := n1_;have HB := n2_;clear n0_ n1_ n2_;(try clear hb);(try clear hb2);(try clear hk);(try clear hi);(try clear ho0);have hcz22_0 : w21.cell? ⟨gb315,0,none⟩ = some (.int .i64 a1_0) := (blk_cell BK315.out 0).trans rfl;have hcz22_1 : w21.cell? ⟨gb315,1,none⟩ = some (.int .i64 a1_1) := (blk_cell BK315.out 1).trans rfl;have hfz22_0 := blk_frozen BK315.out 0;have hfz22_1 := blk_frozen BK315.out 1;obtain ⟨Ao23,co23,eo23⟩ := Kd.R_slice HO318.out;subst eo23) | ((with_reducible refine gate_callee (f:=16) rfl ?_);refine goesL_ (some 24) rfl rfl Try.func16 (by kernel_rfl) rfl #[.slice Ao23 t316.length co23, .agg #[.int .i64 a1_0, .int .i64 a1_1], .int .i64 a2, .int .i64 a3] rfl (by (try simp only [List.map_toArray,List.map_cons,List.map_nil]);first | done | rfl | (simp only [List.length_drop,List.length_take];rfl)) ?_;(with_reducible refine (aging_Reach.calls k _ _ t316 a1_0 a1_1 a2 a3 t319 t320 _ ?side1 ?side2 A8.out).mono ?_);(case side1 => repeat (first | exact (Kd.R_reads' HO318.out).2.2 | (with_reducible refine Kd.C_alloc ?_ _) | (with_reducible refine Kd.C_drewN ?_ _) | (with_reducible refine Kd.C_drew ?_)));(case side2 => exact (Kd.R_reads' HO318.out).2.1);rintro e w24 ⟨rfl,hb⟩;refine ⟨_,rfl,?_⟩;have n0_ := Aside0.mk (Kd.R_below (by (with_reducible repeat (first | apply Kd.R_alloc | apply Kd.R_drewN | apply Kd.R_drew));exact HO318.out) hb);have n1_ := Aside0.mk (blk_below (g:=gb315) (o:=.cells #[.int .i64 a1_0, .int .i64 a1_1] 24 (0,0)) (by (with_reducible repeat (first | refine blk_drewN ?_ _ | refine blk_drew ?_ | refine blk_alloc ?_ _));exact BK315.out) hb);have n2_ := Aside0.mk (below_step (by repeat (first | (with_reducible first | exact HB.out | apply below_alloc | apply pw_below_drewN | apply below_drew1 | refine below_set ?_ GE315.out) | exact HB.out)) hb);clear HO318;clear BK315;clear HB;have HO318 := n0_;have BK315 := n1_;have HB := n2_;clear n0_ n1_ n2_;(try clear hb);(try clear hb2);(try clear hk);(try clear hi);have hcz25_0 : w24.cell? ⟨gb315,0,none⟩ = some (.int .i64 a1_0) := (blk_cell BK315.out 0).trans rfl;have hcz25_1 : w24.cell? ⟨gb315,1,none⟩ = some (.int .i64 a1_1) := (blk_cell BK315.out 1).trans rfl;have hfz25_0 := blk_frozen BK315.out 0;have hfz25_1 := blk_frozen BK315.out 1) | ((with_reducible refine gate_callee (f:=17) rfl ?_);refine goesL_ (some 32) rfl rfl Try.func17 (by kernel_rfl) rfl #[.slice A0 l0.length c0, .agg #[.int .i64 a1_0, .int .i64 a1_1], .int .i64 a2, .int .i64 a3] rfl (by (try simp only [List.map_toArray,List.map_cons,List.map_nil]);first | done | rfl | (simp only [List.length_drop,List.length_take];rfl)) ?_;(with_reducible refine (arrearsref10_Reach.calls k _ _ l0 a1_0 a1_1 a2 a3 t321 t322 _ ?side1 ?side2 A9.out).mono ?_);(case side1 => repeat (first | exact (Kd.C_below HR0.out HB.out) | (with_reducible refine Kd.C_alloc ?_ _) | (with_reducible refine Kd.C_drewN ?_ _) | (with_reducible refine Kd.C_drew ?_)));(case side2 => exact HC0.out);rintro e w26 ⟨rfl,hb⟩;refine ⟨_,rfl,?_⟩;have n0_ := Aside0.mk (Kd.R_below (by (with_reducible repeat (first | apply Kd.R_alloc | apply Kd.R_drewN | apply Kd.R_drew));exact HO318.out) hb);have n1_ := Aside0.mk (blk_below (g:=gb315) (o:=.cells #[.int .i64 a1_0, .int .i64 a1_1] 24 (0,0)) (by (with_reducible repeat (first | refine blk_drewN ?_ _ | refine blk_drew ?_ | refine blk_alloc ?_ _));exact BK315.out) hb);have n2_ := Aside0.mk (below_step (by repeat (first | (with_reducible first | exact HB.out | apply below_alloc | apply pw_below_drewN | apply below_drew1 | refine below_set ?_ GE315.out) | exact HB.out)) hb);clear HO318;clear BK315;clear HB;have HO318 := n0_;have BK315 := n1_;have HB := n2_;clear n0_ n1_ n2_;(try clear hb);(try clear hb2);(try clear hk);(try clear hi)))
    go_ret
    exact ⟨by first | rfl | (simp [errW_none,errW_some] <;> rfl) | (simp [*,errW_none,errW_some] <;> rfl),by repeat (first | (with_reducible first | exact HB.out | apply below_alloc | apply pw_below_drewN | apply below_drew1 | refine below_set ?_ GE315.out) | exact HB.out)⟩
  ·
   rw [if_neg c10] at H
   have c10b0 : (t319 == t321) = false := beq_eq_false_iff_ne.mpr c10
   have c10b1 : (t319 != t321) = true := bne_iff_ne.mpr c10
   obtain rfl := Option.some.inj H
   go_enter Try.func4,Try.ntmps4
   go_wp2_with (first | ((with_reducible refine gate_dst (N:=5) rfl ?_);refine box_event ?hg (N:=5) ?hd (cs:=#[.int .i64 a1_0, .int .i64 a1_1]) (t:=24) ?hr ?_;(case hd => rfl);(case hg => rfl);(case hr => first | (go_simp;done) | (go_simp;rfl));intro gb315 hg w27 hbox hb;have n0_ := Aside0.mk (below_step (by repeat (first | (with_reducible first | exact HB.out | apply below_alloc | apply pw_below_drewN | apply below_drew1) | exact HB.out)) hb);have n1_ := Aside0.mk (hbox);have n2_ := Aside0.mk ((by rw [hg];exact (below_size (by repeat (first | (with_reducible first | exact HB.out | apply below_alloc | apply pw_below_drewN | apply below_drew1) | exact HB.out))) : w.heap.size ≤ gb315));have n3_ := Aside0.mk ((by rw [hg];exact (below_size (by repeat (first | (with_reducible first | exact HB.out | apply below_alloc | apply pw_below_drewN | apply below_drew1) | exact HB.out))) : w.heap.size ≤ gb315));clear HB;have HB := n0_;have BK315 := n1_;have GW315 := n2_;have GE315 := n3_;clear n0_ n1_ n2_ n3_;clear hb hbox hg) | ((with_reducible refine gate_callee (f:=14) rfl ?_);refine goesL_ (some 18) rfl rfl Try.func14 (by kernel_rfl) rfl #[.slice A0 l0.length c0] rfl (by (try simp only [List.map_toArray,List.map_cons,List.map_nil]);first | done | rfl | (simp only [List.length_drop,List.length_take];rfl)) ?_;(with_reducible refine (arrearslaw10_copied.calls _ _ l0 t316 _ ?side1 ?side2 A7.out).mono ?_);(case side1 => repeat (first | exact (Kd.C_below HR0.out HB.out) | (with_reducible refine Kd.C_alloc ?_ _) | (with_reducible refine Kd.C_drewN ?_ _) | (with_reducible refine Kd.C_drew ?_)));(case side2 => exact HC0.out);rintro e w28 ⟨v317,rfl,ho0,hb⟩;refine ⟨_,rfl,?_⟩;have n0_ := Aside0.mk (Kd.R_lower ho0 (below_size (by repeat (first | (with_reducible first | exact HB.out | apply below_alloc | apply pw_below_drewN | apply below_drew1 | refine below_set ?_ GE315.out) | exact HB.out))));have n1_ := Aside0.mk (blk_below (g:=gb315) (o:=.cells #[.int .i64 a1_0, .int .i64 a1_1] 24 (0,0)) (by (with_reducible repeat (first | refine blk_drewN ?_ _ | refine blk_drew ?_ | refine blk_alloc ?_ _));exact BK315.out) hb);have n2_ := Aside0.mk (below_step (by repeat (first | (with_reducible first | exact HB.out | apply below_alloc | apply pw_below_drewN | apply below_drew1 | refine below_set ?_ GE315.out) | exact HB.out)) hb);clear BK315;clear HB;have HO318 := n0_;have BK315 := n1_;have HB := n2_;clear n0_ n1_ n2_;(try clear hb);(try clear hb2);(try clear hk);(try clear hi);(try clear ho0);have hcz29_0 : w28.cell? ⟨gb315,0,none⟩ = some (.int .i64 a1_0) := (blk_cell BK315.out 0).trans rfl;have hcz29_1 : w28.cell? ⟨gb315,1,none⟩ = some (.int .i64 a1_1) := (blk_cell BK315.out 1).trans rfl;have hfz29_0 := blk_frozen BK315.out 0;have hfz29_1 := blk_frozen BK315.out 1;obtain ⟨Ao30,co30,eo30⟩ := Kd.R_slice HO318.out;subst eo30) | ((with_reducible refine gate_callee (f:=16) rfl ?_);refine goesL_ (some 24) rfl rfl Try.func16 (by kernel_rfl) rfl #[.slice Ao30 t316.length co30, .agg #[.int .i64 a1_0, .int .i64 a1_1], .int .i64 a2, .int .i64 a3] rfl (by (try simp only [List.map_toArray,List.map_cons,List.map_nil]);first | done | rfl | (simp only [List.length_drop,List.length_take];rfl)) ?_;(with_reducible refine (aging_Reach.calls k _ _ t316 a1_0 a1_1 a2 a3 t319 t320 _ ?side1 ?side2 A8.out).mono ?_);(case side1 => repeat (first | exact (Kd.R_reads' HO318.out).2.2 | (with_reducible refine Kd.C_alloc ?_ _) | (with_reducible refine Kd.C_drewN ?_ _) | (with_reducible refine Kd.C_drew ?_)));(case side2 => exact (Kd.R_reads' HO318.out).2.1);rintro e w31 ⟨rfl,hb⟩;refine ⟨_,rfl,?_⟩;have n0_ := Aside0.mk (Kd.R_below (by (with_reducible repeat (first | apply Kd.R_alloc | apply Kd.R_drewN | apply Kd.R_drew));exact HO318.out) hb);have n1_ := Aside0.mk (blk_below (g:=gb315) (o:=.cells #[.int .i64 a1_0, .int .i64 a1_1] 24 (0,0)) (by (with_reducible repeat (first | refine blk_drewN ?_ _ | refine blk_drew ?_ | refine blk_alloc ?_ _));exact BK315.out) hb);have n2_ := Aside0.mk (below_step (by repeat (first | (with_reducible first | exact HB.out | apply below_alloc | apply pw_below_drewN | apply below_drew1 | refine below_set ?_ GE315.out) | exact HB.out)) hb);clear HO318;clear BK315;clear HB;have HO318 := n0_;have BK315 := n1_;have HB := n2_;clear n0_ n1_ n2_;(try clear hb);(try clear hb2);(try clear hk);(try clear hi);have hcz32_0 : w31.cell? ⟨gb315,0,none⟩ = some (.int .i64 a1_0) := (blk_cell BK315.out 0).trans rfl;have hcz32_1 : w31.cell? ⟨gb315,1,none⟩ = some (.int .i64 a1_1) := (blk_cell BK315.out 1).trans rfl;have hfz32_0 := blk_frozen BK315.out 0;have hfz32_1 := blk_frozen BK315.out 1) | ((with_reducible refine gate_callee (f:=17) rfl ?_);refine goesL_ (some 32) rfl rfl Try.func17 (by kernel_rfl) rfl #[.slice A0 l0.length c0, .agg #[.int .i64 a1_0, .int .i64 a1_1], .int .i64 a2, .int .i64 a3] rfl (by (try simp only [List.map_toArray,List.map_cons,List.map_nil]);first | done | rfl | (simp only [List.length_drop,List.length_take];rfl)) ?_;(with_reducible refine (arrearsref10_Reach.calls k _ _ l0 a1_0 a1_1 a2 a3 t321 t322 _ ?side1 ?side2 A9.out).mono ?_);(case side1 => repeat (first | exact (Kd.C_below HR0.out HB.out) | (with_reducible refine Kd.C_alloc ?_ _) | (with_reducible refine Kd.C_drewN ?_ _) | (with_reducible refine Kd.C_drew ?_)));(case side2 => exact HC0.out);rintro e w33 ⟨rfl,hb⟩;refine ⟨_,rfl,?_⟩;have n0_ := Aside0.mk (Kd.R_below (by (with_reducible repeat (first | apply Kd.R_alloc | apply Kd.R_drewN | apply Kd.R_drew));exact HO318.out) hb);have n1_ := Aside0.mk (blk_below (g:=gb315) (o:=.cells #[.int .i64 a1_0, .int .i64 a1_1] 24 (0,0)) (by (with_reducible repeat (first | refine blk_drewN ?_ _ | refine blk_drew ?_ | refine blk_alloc ?_ _));exact BK315.out) hb);have n2_ := Aside0.mk (below_step (by repeat (first | (with_reducible first | exact HB.out | apply below_alloc | apply pw_below_drewN | apply below_drew1 | refine below_set ?_ GE315.out) | exact HB.out)) hb);clear HO318;clear BK315;clear HB;have HO318 := n0_;have BK315 := n1_;have HB := n2_;clear n0_ n1_ n2_;(try clear hb);(try clear hb2);(try clear hk);(try clear hi)))
   go_ret
   exact ⟨by first | rfl | (simp [errW_none,errW_some] <;> rfl) | (simp [*,errW_none,errW_some] <;> rfl),by repeat (first | (with_reducible first | exact HB.out | apply below_alloc | apply pw_below_drewN | apply below_drew1 | refine below_set ?_ GE315.out) | exact HB.out)⟩

/-! ### aging_Bucket: function 29 -/
def aging_Bucket.f (a0 : Int) : Option (Int) := if a0 ≥ 90 then (some 4) else (if a0 ≥ 60 then (some 3) else (if a0 ≥ 30 then (some 2) else (if a0 ≥ 1 then (some 1) else (some 0))))
set_option maxHeartbeats 8000000 in
set_option maxRecDepth 100000 in
theorem aging_Bucket.calls (a0 : Int) (r : Int) (w : World) (h : aging_Bucket.f a0 = some r) :
  Calls Try.prog 29 #[.int .i64 a0] w fun e w' => e = .returned (.int .i64 r) ∧ Drawn0 w w' := by
 have H : (if a0 ≥ 90 then (some 4) else (if a0 ≥ 60 then (some 3) else (if a0 ≥ 30 then (some 2) else (if a0 ≥ 1 then (some 1) else (some 0))))) = some r := h
 clear h
 by_cases c2 : a0 ≥ 90
 ·
  rw [if_pos c2] at H
  have c2b0 : decide (90 ≤ a0) = true := decide_eq_true c2
  clear c2
  obtain rfl := Option.some.inj H
  go_enter Try.func29,Try.ntmps29
  go_wp2
  go_ret
  exact ⟨by first | rfl | (simp;done) | (simp [*];done),by repeat (first | exact Drawn0.refl _ | apply Drawn0.step)⟩
 ·
  rw [if_neg c2] at H
  have c2b0 : decide (90 ≤ a0) = false := decide_eq_false c2
  clear c2
  by_cases c3 : a0 ≥ 60
  ·
   rw [if_pos c3] at H
   have c3b0 : decide (60 ≤ a0) = true := decide_eq_true c3
   clear c3
   obtain rfl := Option.some.inj H
   go_enter Try.func29,Try.ntmps29
   go_wp2
   go_ret
   exact ⟨by first | rfl | (simp;done) | (simp [*];done),by repeat (first | exact Drawn0.refl _ | apply Drawn0.step)⟩
  ·
   rw [if_neg c3] at H
   have c3b0 : decide (60 ≤ a0) = false := decide_eq_false c3
   clear c3
   by_cases c4 : a0 ≥ 30
   ·
    rw [if_pos c4] at H
    have c4b0 : decide (30 ≤ a0) = true := decide_eq_true c4
    clear c4
    obtain rfl := Option.some.inj H
    go_enter Try.func29,Try.ntmps29
    go_wp2
    go_ret
    exact ⟨by first | rfl | (simp;done) | (simp [*];done),by repeat (first | exact Drawn0.refl _ | apply Drawn0.step)⟩
   ·
    rw [if_neg c4] at H
    have c4b0 : decide (30 ≤ a0) = false := decide_eq_false c4
    clear c4
    by_cases c5 : a0 ≥ 1
    ·
     rw [if_pos c5] at H
     have c5b0 : decide (1 ≤ a0) = true := decide_eq_true c5
     clear c5
     obtain rfl := Option.some.inj H
     go_enter Try.func29,Try.ntmps29
     go_wp2
     go_ret
     exact ⟨by first | rfl | (simp;done) | (simp [*];done),by repeat (first | exact Drawn0.refl _ | apply Drawn0.step)⟩
    ·
     rw [if_neg c5] at H
     have c5b0 : decide (1 ≤ a0) = false := decide_eq_false c5
     clear c5
     obtain rfl := Option.some.inj H
     go_enter Try.func29,Try.ntmps29
     go_wp2
     go_ret
     exact ⟨by first | rfl | (simp;done) | (simp [*];done),by repeat (first | exact Drawn0.refl _ | apply Drawn0.step)⟩

/-! ### arrearsref10_Bucket: function 42 -/
def arrearsref10_Bucket.l0 : Nat → Int → Int → Int → Int → Int → Int → Int → Option (Int)
 | 0,_,_,_,_,_,_,_ => none
 | k + 1,x0,x3,x7,x600,x601,x602,x603 => if x7 < 4 then (if 0 ≤ x7 then (if x0 ≥ (selI [x600,x601,x602,x603] x7) then (arrearsref10_Bucket.l0 k x0 (wrap64 (x3 + 1)) (wrap64 (x7 + 1)) x600 x601 x602 x603) else (arrearsref10_Bucket.l0 k x0 x3 (wrap64 (x7 + 1)) x600 x601 x602 x603)) else (none)) else (some x3)
def arrearsref10_Bucket.f (k : Nat) (a0 : Int) : Option (Int) := arrearsref10_Bucket.l0 k a0 0 0 1 30 60 90
theorem arrearsref10_Bucket.mono_l : ∀ k,(∀ y0 y1 y2 y3 y4 y5 y6,LeO (arrearsref10_Bucket.l0 k y0 y1 y2 y3 y4 y5 y6) (arrearsref10_Bucket.l0 (k + 1) y0 y1 y2 y3 y4 y5 y6))
 | 0 => fun _ _ _ _ _ _ _ r h => by simp [arrearsref10_Bucket.l0] at h
 | k + 1 => by
  have ih0 := arrearsref10_Bucket.mono_l k
  ·
   intro y0 y1 y2 y3 y4 y5 y6
   unfold arrearsref10_Bucket.l0
   repeat' first
   | (with_reducible exact ih0 _ _ _ _ _ _ _)
   | (with_reducible exact LeO.refl _)
   | (with_reducible exact LeO.none _)
   | (with_reducible refine LeO.ite ?_ ?_)
   | (with_reducible refine LeO.bind ?_ (fun _ => ?_))
   | exact ih0 _ _ _ _ _ _ _
   | exact LeO.none _
   | refine LeO.ite ?_ ?_
   | refine LeO.bind ?_ (fun _ => ?_)
theorem arrearsref10_Bucket.mono : ∀ a0 k,LeO (arrearsref10_Bucket.f k a0) (arrearsref10_Bucket.f (k + 1) a0) := by
 intro a0 k
 have ih0 := arrearsref10_Bucket.mono_l k
 unfold arrearsref10_Bucket.f
 repeat' first
   | (with_reducible exact ih0 _ _ _ _ _ _ _)
   | (with_reducible exact LeO.refl _)
   | (with_reducible exact LeO.none _)
   | (with_reducible refine LeO.ite ?_ ?_)
   | (with_reducible refine LeO.bind ?_ (fun _ => ?_))
   | exact ih0 _ _ _ _ _ _ _
   | exact LeO.none _
   | refine LeO.ite ?_ ?_
   | refine LeO.bind ?_ (fun _ => ?_)
set_option maxHeartbeats 8000000 in
set_option maxRecDepth 100000 in
theorem arrearsref10_Bucket.calls (k : Nat) (a0 : Int) (r : Int) (w : World) (h : arrearsref10_Bucket.f k a0 = some r) :
  Calls Try.prog 42 #[.int .i64 a0] w fun e w' => e = .returned (.int .i64 r) ∧ Drawn0 w w' := by
 have hu61 := Try.underlying61
 have H : (arrearsref10_Bucket.l0 k a0 0 0 1 30 60 90) = some r := h
 clear h
 have H' := Aside0.mk H
 clear H
 go_enter Try.func42,Try.ntmps42
 go_wp2
 go_loopg [3,7] k (fun kq v3 v7 w' => ∃ (x3_1 : Int) (x7_1 : Int),v3 = .int .i64 x3_1 ∧ v7 = .int .i64 x7_1 ∧ Aside0 (arrearsref10_Bucket.l0 kq a0 x3_1 x7_1 1 30 60 90 = some r) ∧ Aside0 (kq ≤ k) ∧ Drawn0 w w')
 case atStart => exact ⟨(0),(0),(by first | rfl | (simp;done) | (simp [*];done)),(by first | rfl | (simp;done) | (simp [*];done)),H',⟨Nat.le_refl _⟩,by repeat (first | exact Drawn0.refl _ | apply Drawn0.step)⟩
 case round =>
  clear H'
  obtain ⟨x3_1,x7_1,rfl,rfl,HA,HK1,⟨m1,rfl⟩⟩ := hrel
  cases gk with
  | zero => exact absurd HA.out (by simp [arrearsref10_Bucket.l0])
  | succ k1 =>
   have H := HA.out
   clear HA
   simp only [arrearsref10_Bucket.l0] at H
   by_cases c2 : x7_1 < 4
   ·
    rw [if_pos c2] at H
    have c2b0 : decide (x7_1 < 4) = true := decide_eq_true c2
    clear c2
    by_cases c3 : 0 ≤ x7_1
    ·
     rw [if_pos c3] at H
     have c3b0 : decide (0 ≤ x7_1) = true := decide_eq_true c3
     clear c3
     by_cases c4 : a0 ≥ (selI [1,30,60,90] x7_1)
     ·
      rw [if_pos c4] at H
      have c4b0 : decide ((selI [1,30,60,90] x7_1) ≤ a0) = true := decide_eq_true c4
      clear c4
      have H' := Aside0.mk H
      clear H
      have p324 : 0 ≤ (x7_1 : Int) := of_decide_eq_true (by first | (with_reducible assumption) | assumption)
      have q324 : (x7_1 : Int) < 4 := of_decide_eq_true (by first | (with_reducible assumption) | assumption)
      have hix324 := fun W_ => idxv_61 1 30 60 90 x7_1 p324 q324 W_
      clear p324 q324
      go_wp2
      go_roundg k1
      case measure => have := HK1.out;omega
      case rel => exact ⟨(wrap64 (x3_1 + 1)),(wrap64 (x7_1 + 1)),(by first | rfl | (simp;done) | (simp [*];done)),(by first | rfl | (simp;done) | (simp [*];done)),H',⟨by have := HK1.out;omega⟩,by repeat (first | exact Drawn0.refl _ | apply Drawn0.step)⟩
     ·
      rw [if_neg c4] at H
      have c4b0 : decide ((selI [1,30,60,90] x7_1) ≤ a0) = false := decide_eq_false c4
      clear c4
      have H' := Aside0.mk H
      clear H
      have p324 : 0 ≤ (x7_1 : Int) := of_decide_eq_true (by first | (with_reducible assumption) | assumption)
      have q324 : (x7_1 : Int) < 4 := of_decide_eq_true (by first | (with_reducible assumption) | assumption)
      have hix324 := fun W_ => idxv_61 1 30 60 90 x7_1 p324 q324 W_
      clear p324 q324
      go_wp2
      go_roundg k1
      case measure => have := HK1.out;omega
      case rel => exact ⟨(x3_1),(wrap64 (x7_1 + 1)),(by first | rfl | (simp;done) | (simp [*];done)),(by first | rfl | (simp;done) | (simp [*];done)),H',⟨by have := HK1.out;omega⟩,by repeat (first | exact Drawn0.refl _ | apply Drawn0.step)⟩
    ·
     rw [if_neg c3] at H
     exact absurd H (by simp)
   ·
    rw [if_neg c2] at H
    have c2b0 : decide (x7_1 < 4) = false := decide_eq_false c2
    clear c2
    obtain rfl := Option.some.inj H
    go_wp2
    go_ret
    exact ⟨by first | rfl | (simp;done) | (simp [*];done),by repeat (first | exact Drawn0.refl _ | apply Drawn0.step)⟩

end Go.Proofs.Ytncfoaglmggdhaa.Y
