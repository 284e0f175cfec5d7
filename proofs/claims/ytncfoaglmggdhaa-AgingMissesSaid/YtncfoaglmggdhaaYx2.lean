import Derived.Test.YtncfoaglmggdhaaYx0
import Derived.Test.YtncfoaglmggdhaaYx1
namespace Go.Proofs.Ytncfoaglmggdhaa.Y
open Go.RowKit Go.Proofs.YtncfoaglmggdhaaW.PrintWords Go.Proofs.YtncfoaglmggdhaaW.PrintLast Go.Proofs.YtncfoaglmggdhaaW.PrintMore
attribute [local go_sem] max2_int min2_int max_two min_two max_three min_three max_four min_four   -- for this text's walks alone
set_option linter.unusedVariables false
set_option linter.unusedSimpArgs false

attribute [local go_sem high] eqA31
/-! ### arrearslaw10_copied: function 14 -/
def arrearslaw10_copied.f (l0 : List (S31)) : Option ((List (S31))) := if ([] : List (S31)).length + l0.length < 4398046511104 then (some (([] : List (S31)) ++ l0)) else (none)
set_option maxHeartbeats 8000000 in
set_option maxRecDepth 100000 in
theorem arrearslaw10_copied.calls (A0 : Option Addr) (c0 : Nat) (l0 : List (S31)) (r : List (S31)) (w : World) (hr0 : Kd.C k31 w A0 l0.length l0) (hc0 : l0.length ≤ c0) (h : arrearslaw10_copied.f l0 = some r) :
  Calls Try.prog 14 #[.slice A0 l0.length c0] w fun e w' => ∃ v0_ : Value,e = .returned (v0_) ∧ Kd.R k31 31 w' w.heap.size (fun _ => True) v0_ r ∧ Below w.heap.size w w' := by
 have HR0 := Aside0.mk hr0
 have HC0 := Aside0.mk hc0
 clear hr0 hc0
 have HB := Aside0.mk (Below.refl w.heap.size w)
 have H : (if ([] : List (S31)).length + l0.length < 4398046511104 then (some (([] : List (S31)) ++ l0)) else (none)) = some r := h
 clear h
 by_cases c2 : ([] : List (S31)).length + l0.length < 4398046511104
 ·
  rw [if_pos c2] at H
  have LMc2 := Aside0.mk c2
  clear c2
  obtain ⟨y101,hy101⟩ : ∃ y_ : List (S31),y_ = (([] : List (S31)) ++ l0) := ⟨_,rfl⟩
  replace H : (some y101) = some r := by first | (rw [hy101];with_reducible exact H) | (have H2_ := (Option.bind_some _ _).symm.trans H;rw [hy101];with_reducible exact H2_) | (have H2_ := (Option.bind_some _ _).symm.trans H;with_reducible exact H2_) | with_reducible exact H | (rw [hy101];exact H) | exact H
  have Ny101 := Aside0.mk hy101
  clear hy101
  obtain rfl := Option.some.inj H
  go_enter Try.func14,Try.ntmps14
  go_wp2_with (first | ((with_reducible refine gate_builtin (b:=.append) (xs:=#[.tmp 4, .tmp 5]) rfl ?_);at_builtin;refine Kd.R_append_rows k31 (w0:=w) w.heap.size rfl (.tmp 4) (.tmp 5) 22 31 (.agg #[(.int .i64 0),(.int .i64 0),(.int .i64 0),(.bool false)]) 32 rfl Try.underlying22 info31 rfl (by decide) (by omega) (.slice none 0 0) ([] : List (S31)) l0 _ _ _ (fun _ => True) (fun _ => False) rfl rfl ?aO ?aR (fun _ _ h => h) (fun _ h => h.elim) ?aF ?aB ?aS ?aL ?_;(case aR => repeat (first | exact HR0.out | (with_reducible refine Kd.C_alloc ?_ _) | (with_reducible refine Kd.C_drewN ?_ _) | (with_reducible refine Kd.C_drew ?_)));(case aB => exact (by repeat (first | (with_reducible first | exact HB.out | apply below_alloc | apply pw_below_drewN | apply below_drew1) | exact HB.out)));(case aF => exact (fun _ _ => trivial));(case aO => exact ((Kd.R_nil _ _ _ _ (fun _ => True))));(case aS => exact (below_size (by repeat (first | (with_reducible first | exact HB.out | apply below_alloc | apply pw_below_drewN | apply below_drew1) | exact HB.out))));(case aL => have := LMc2.out;omega);intro v102 w3 ho hb hg hat;rw [← Ny101.out] at ho;have n0_ := Aside0.mk (hb);have n1_ := Aside0.mk (ho);clear HB;have HB := n0_;have HO103 := n1_;clear n0_ n1_;clear ho hb hg hat))
  go_ret
  exact ⟨_,by first | rfl | (simp [errW_none,errW_some] <;> rfl) | (simp [*,errW_none,errW_some] <;> rfl),by (with_reducible repeat (first | apply Kd.R_alloc | apply Kd.R_drewN | apply Kd.R_drew));exact HO103.out,by repeat (first | (with_reducible first | exact HB.out | apply below_alloc | apply pw_below_drewN | apply below_drew1) | exact HB.out)⟩
 ·
  rw [if_neg c2] at H
  exact absurd H (by simp)

/-! ### arrearslaw10_samePlan: function 18 -/
def arrearslaw10_samePlan.l0 : Nat → List (S31) → List (S31) → Int → Option (Bool)
 | 0,_,_,_ => none
 | k + 1,x0,x1,x5 => if x5 < (x0.length : Int) then (if 0 ≤ x5 then (if x5 < (x1.length : Int) then (if (!(((rd_T31 x0 x5).f0) == ((rd_T31 x1 x5).f0)) || (!(((rd_T31 x0 x5).f1) == ((rd_T31 x1 x5).f1)) || (!(((rd_T31 x0 x5).f2) == ((rd_T31 x1 x5).f2)) || (!(((rd_T31 x0 x5).f3) == ((rd_T31 x1 x5).f3)))))) = true then (some false) else (arrearslaw10_samePlan.l0 k x0 x1 (wrap64 (x5 + 1)))) else (none)) else (none)) else (some true)
def arrearslaw10_samePlan.f (k : Nat) (l0 : List (S31)) (l1 : List (S31)) : Option (Bool) := if (l0.length : Int) = (l1.length : Int) then (arrearslaw10_samePlan.l0 k l0 l1 0) else (some false)
theorem arrearslaw10_samePlan.mono_l : ∀ k,(∀ y0 y1 y2,LeO (arrearslaw10_samePlan.l0 k y0 y1 y2) (arrearslaw10_samePlan.l0 (k + 1) y0 y1 y2))
 | 0 => fun _ _ _ r h => by simp [arrearslaw10_samePlan.l0] at h
 | k + 1 => by
  have ih0 := arrearslaw10_samePlan.mono_l k
  ·
   intro y0 y1 y2
   unfold arrearslaw10_samePlan.l0
   repeat' first
   | (with_reducible exact ih0 _ _ _)
   | (with_reducible exact LeO.refl _)
   | (with_reducible exact LeO.none _)
   | (with_reducible refine LeO.ite ?_ ?_)
   | (with_reducible refine LeO.bind ?_ (fun _ => ?_))
   | exact ih0 _ _ _
   | exact LeO.none _
   | refine LeO.ite ?_ ?_
   | refine LeO.bind ?_ (fun _ => ?_)
theorem arrearslaw10_samePlan.mono : ∀ a0 a1 k,LeO (arrearslaw10_samePlan.f k a0 a1) (arrearslaw10_samePlan.f (k + 1) a0 a1) := by
 intro a0 a1 k
 have ih0 := arrearslaw10_samePlan.mono_l k
 unfold arrearslaw10_samePlan.f
 repeat' first
   | (with_reducible exact ih0 _ _ _)
   | (with_reducible exact LeO.refl _)
   | (with_reducible exact LeO.none _)
   | (with_reducible refine LeO.ite ?_ ?_)
   | (with_reducible refine LeO.bind ?_ (fun _ => ?_))
   | exact ih0 _ _ _
   | exact LeO.none _
   | refine LeO.ite ?_ ?_
   | refine LeO.bind ?_ (fun _ => ?_)
set_option maxHeartbeats 8000000 in
set_option maxRecDepth 100000 in
theorem arrearslaw10_samePlan.calls (k : Nat) (A0 : Option Addr) (c0 : Nat) (l0 : List (S31)) (A1 : Option Addr) (c1 : Nat) (l1 : List (S31)) (r : Bool) (w : World) (hr0 : Kd.C k31 w A0 l0.length l0) (hc0 : l0.length ≤ c0) (hr1 : Kd.C k31 w A1 l1.length l1) (hc1 : l1.length ≤ c1) (h : arrearslaw10_samePlan.f k l0 l1 = some r) :
  Calls Try.prog 18 #[.slice A0 l0.length c0, .slice A1 l1.length c1] w fun e w' => e = .returned (.bool r) ∧ Drawn0 w w' := by
 have hu31 := Try.underlying31
 have HR0 := Aside0.mk hr0
 have HC0 := Aside0.mk hc0
 clear hr0 hc0
 have HR1 := Aside0.mk hr1
 have HC1 := Aside0.mk hc1
 clear hr1 hc1
 have H : (if (l0.length : Int) = (l1.length : Int) then (arrearslaw10_samePlan.l0 k l0 l1 0) else (some false)) = some r := h
 clear h
 by_cases c3 : (l0.length : Int) = (l1.length : Int)
 ·
  rw [if_pos c3] at H
  have c3b0 : ((l0.length : Int) == (l1.length : Int)) = true := beq_iff_eq.mpr c3
  have c3b1 : ((l0.length : Int) != (l1.length : Int)) = false := bne_eq_false_iff_eq.mpr c3
  have c3b2 : (l0.length == l1.length) = true := by first | simpa using c3 | (simp at c3 ⊢;omega)
  clear c3
  have H' := Aside0.mk H
  clear H
  go_enter Try.func18,Try.ntmps18
  go_wp2
  repeat (go_quiet (fail);try go_wp2)
  go_loopg [5] k (fun kq v5 w' => ∃ (x5_1 : Int),v5 = .int .i64 x5_1 ∧ Aside0 (arrearslaw10_samePlan.l0 kq l0 l1 x5_1 = some r) ∧ Aside0 (kq ≤ k) ∧ Drawn0 w w')
  case atStart => exact ⟨(0),(by first | rfl | (simp;done) | (simp [*];done)),H',⟨Nat.le_refl _⟩,by repeat (first | exact Drawn0.refl _ | apply Drawn0.step)⟩
  case round =>
   clear H'
   try clear c1
   try clear p2
   try clear c3
   try clear c3b0
   try clear c3b1
   try clear c3b2
   obtain ⟨x5_1,rfl,HA,HK1,⟨m1,rfl⟩⟩ := hrel
   cases gk with
   | zero => exact absurd HA.out (by simp [arrearslaw10_samePlan.l0])
   | succ k1 =>
    have H := HA.out
    clear HA
    simp only [arrearslaw10_samePlan.l0] at H
    by_cases c4 : x5_1 < (l0.length : Int)
    ·
     rw [if_pos c4] at H
     have c4b0 : decide (x5_1 < (l0.length : Int)) = true := decide_eq_true c4
     clear c4
     by_cases c5 : 0 ≤ x5_1
     ·
      rw [if_pos c5] at H
      have c5b0 : decide (0 ≤ x5_1) = true := decide_eq_true c5
      clear c5
      by_cases c6 : x5_1 < (l1.length : Int)
      ·
       rw [if_pos c6] at H
       have c6b0 : decide (x5_1 < (l1.length : Int)) = true := decide_eq_true c6
       clear c6
       by_cases c7 : (!(((rd_T31 l0 x5_1).f0) == ((rd_T31 l1 x5_1).f0)) || (!(((rd_T31 l0 x5_1).f1) == ((rd_T31 l1 x5_1).f1)) || (!(((rd_T31 l0 x5_1).f2) == ((rd_T31 l1 x5_1).f2)) || (!(((rd_T31 l0 x5_1).f3) == ((rd_T31 l1 x5_1).f3)))))) = true
       ·
        rw [if_pos c7] at H
        have c7b0 : (!(((rd_T31 l0 x5_1).f0) == ((rd_T31 l1 x5_1).f0)) || (!(((rd_T31 l0 x5_1).f1) == ((rd_T31 l1 x5_1).f1)) || (!(((rd_T31 l0 x5_1).f2) == ((rd_T31 l1 x5_1).f2)) || (!(((rd_T31 l0 x5_1).f3) == ((rd_T31 l1 x5_1).f3)))))) = true := c7
        clear c7
        obtain rfl := Option.some.inj H
        have p104 : 0 ≤ (x5_1 : Int) := of_decide_eq_true (by first | (with_reducible assumption) | assumption)
        have q104 : x5_1 < (l0.length : Int) := of_decide_eq_true (by first | (with_reducible assumption) | assumption)
        obtain ⟨ad104,e104,hx104_0,hx104_1,hx104_2,hx104_3⟩ := at_T31 HR0.out x5_1 p104 q104
        cases e104
        replace p104 := eq_true p104
        replace q104 := eq_true q104
        have p105 : 0 ≤ (x5_1 : Int) := of_decide_eq_true (by first | (with_reducible assumption) | assumption)
        have q105 : x5_1 < (l1.length : Int) := of_decide_eq_true (by first | (with_reducible assumption) | assumption)
        obtain ⟨ad105,e105,hx105_0,hx105_1,hx105_2,hx105_3⟩ := at_T31 HR1.out x5_1 p105 q105
        cases e105
        replace p105 := eq_true p105
        replace q105 := eq_true q105
        go_wp2
        repeat (go_quiet (fail);try go_wp2)
        go_ret
        exact ⟨by first | rfl | (simp;done) | (simp [*];done),by repeat (first | exact Drawn0.refl _ | apply Drawn0.step)⟩
       ·
        rw [if_neg c7] at H
        have c7b0 : (!(((rd_T31 l0 x5_1).f0) == ((rd_T31 l1 x5_1).f0)) || (!(((rd_T31 l0 x5_1).f1) == ((rd_T31 l1 x5_1).f1)) || (!(((rd_T31 l0 x5_1).f2) == ((rd_T31 l1 x5_1).f2)) || (!(((rd_T31 l0 x5_1).f3) == ((rd_T31 l1 x5_1).f3)))))) = false := by simpa using c7
        clear c7
        have H' := Aside0.mk H
        clear H
        have p104 : 0 ≤ (x5_1 : Int) := of_decide_eq_true (by first | (with_reducible assumption) | assumption)
        have q104 : x5_1 < (l0.length : Int) := of_decide_eq_true (by first | (with_reducible assumption) | assumption)
        obtain ⟨ad104,e104,hx104_0,hx104_1,hx104_2,hx104_3⟩ := at_T31 HR0.out x5_1 p104 q104
        cases e104
        replace p104 := eq_true p104
        replace q104 := eq_true q104
        have p105 : 0 ≤ (x5_1 : Int) := of_decide_eq_true (by first | (with_reducible assumption) | assumption)
        have q105 : x5_1 < (l1.length : Int) := of_decide_eq_true (by first | (with_reducible assumption) | assumption)
        obtain ⟨ad105,e105,hx105_0,hx105_1,hx105_2,hx105_3⟩ := at_T31 HR1.out x5_1 p105 q105
        cases e105
        replace p105 := eq_true p105
        replace q105 := eq_true q105
        go_wp2
        repeat (go_quiet (fail);try go_wp2)
        go_roundg k1
        case measure => have := HK1.out;omega
        case rel => exact ⟨(wrap64 (x5_1 + 1)),(by first | rfl | (simp;done) | (simp [*];done)),H',⟨by have := HK1.out;omega⟩,by repeat (first | exact Drawn0.refl _ | apply Drawn0.step)⟩
      ·
       rw [if_neg c6] at H
       exact absurd H (by simp)
     ·
      rw [if_neg c5] at H
      exact absurd H (by simp)
    ·
     rw [if_neg c4] at H
     have c4b0 : decide (x5_1 < (l0.length : Int)) = false := decide_eq_false c4
     clear c4
     obtain rfl := Option.some.inj H
     go_wp2
     repeat (go_quiet (fail);try go_wp2)
     go_ret
     exact ⟨by first | rfl | (simp;done) | (simp [*];done),by repeat (first | exact Drawn0.refl _ | apply Drawn0.step)⟩
 ·
  rw [if_neg c3] at H
  have c3b0 : ((l0.length : Int) == (l1.length : Int)) = false := beq_eq_false_iff_ne.mpr c3
  have c3b1 : ((l0.length : Int) != (l1.length : Int)) = true := bne_iff_ne.mpr c3
  have c3b2 : (l0.length == l1.length) = false := by first | simpa using c3 | (simp at c3 ⊢;omega)
  obtain rfl := Option.some.inj H
  go_enter Try.func18,Try.ntmps18
  go_wp2
  repeat (go_quiet (fail);try go_wp2)
  go_ret
  exact ⟨by first | rfl | (simp;done) | (simp [*];done),by repeat (first | exact Drawn0.refl _ | apply Drawn0.step)⟩

-- NOT PRINTED: function 53 (bits_Add64)

/-! ### money_Sum_int64: function 47 (by hand) -/
def money_Sum_int64.f (l0 : List Int) : Option (Int × Bool) :=
 if (∀ x ∈ l0, -9223372036854775808 ≤ x ∧ x ≤ 9223372036854775807) then
  some (if -9223372036854775808 ≤ l0.sum ∧ l0.sum ≤ 9223372036854775807 then (l0.sum,true) else (0,false)) else none

theorem money_Sum_int64.add64_at (x y : Int) (hx : 0 ≤ x) (hy : 0 ≤ y) (w : World) :
  (callFunc 53 #[.int .u64 x, .int .u64 y, .int .u64 0]).run Try.prog w =
   .ok (.value (.tuple #[.int .u64 ((x + y) % 18446744073709551616), .int .u64 ((x + y) / 18446744073709551616)])) w := by
 rw [run_callFunc_extern Try.func53 (by kernel_rfl) (by kernel_rfl) (by kernel_rfl) (e:=add64Entry) (by kernel_rfl),run_add64 x y 0 hx hy (by omega) (by omega)]
 simp only [Result.andThen,Int.add_zero]
theorem money_Sum_int64.u64_wrap (x : Int) : IntKind.u64.wrap x = x % 18446744073709551616 := by
 first | rfl | (simp [IntKind.wrap,IntKind.bits,IntKind.signed])

def money_Sum_int64.SumInv (l0 : List Int) (k : Nat) (hi lo : Int) : Prop := ∃ H : Int,hi = H % 18446744073709551616 ∧ H * 18446744073709551616 + lo = (l0.take k).sum ∧ -(k : Int) ≤ H ∧ H ≤ k

theorem money_Sum_int64.SumInv.start (l0 : List Int) : money_Sum_int64.SumInv l0 0 0 0 := ⟨0,by omega,by simp,by omega,by omega⟩
theorem money_Sum_int64.sum_take_succ (l0 : List Int) (k : Nat) (h : k < l0.length) : (l0.take (k + 1)).sum = (l0.take k).sum + rd l0 k := by
 rw [List.take_succ_eq_append_getElem h,List.sum_append_int]
 simp [rd,h]
theorem money_Sum_int64.SumInv.pos {l0 : List Int} {k : Nat} {hi lo x s c : Int} (h : money_Sum_int64.SumInv l0 k hi lo) (hk : k < l0.length) (hl0 : 0 ≤ lo) (hl1 : lo ≤ 18446744073709551615) (ex : x = rd l0 k) (hx : ¬ x < 0) (hx1 : x ≤ 9223372036854775807)
  (es : s = (lo + IntKind.u64.wrap x) % 18446744073709551616) (ec : c = (lo + IntKind.u64.wrap x) / 18446744073709551616) :
  money_Sum_int64.SumInv l0 (k + 1) (IntKind.u64.wrap (hi + c)) s := by
 obtain ⟨H,e,eq,h1,h2⟩ := h
 rw [money_Sum_int64.u64_wrap] at es ec ⊢
 refine ⟨H + c,?_,?_,by omega,by omega⟩
 ·
  omega
 ·
  rw [money_Sum_int64.sum_take_succ l0 k hk, ← ex];omega
theorem money_Sum_int64.SumInv.neg {l0 : List Int} {k : Nat} {hi lo x s c : Int} (h : money_Sum_int64.SumInv l0 k hi lo) (hk : k < l0.length) (hl0 : 0 ≤ lo) (hl1 : lo ≤ 18446744073709551615) (ex : x = rd l0 k) (hx : x < 0) (hx1 : -9223372036854775808 ≤ x)
  (es : s = (lo + IntKind.u64.wrap x) % 18446744073709551616) (ec : c = (lo + IntKind.u64.wrap x) / 18446744073709551616) :
  money_Sum_int64.SumInv l0 (k + 1) (IntKind.u64.wrap (IntKind.u64.wrap (hi + c) - 1)) s := by
 obtain ⟨H,e,eq,h1,h2⟩ := h
 rw [money_Sum_int64.u64_wrap] at es ec
 rw [money_Sum_int64.u64_wrap,money_Sum_int64.u64_wrap]
 refine ⟨H + c - 1,?_,?_,by omega,by omega⟩
 ·
  omega
 ·
  rw [money_Sum_int64.sum_take_succ l0 k hk, ← ex];omega

set_option maxRecDepth 100000 in
set_option maxHeartbeats 1000000 in
theorem money_Sum_int64.calls (A0 : Option Addr) (c0 : Nat) (l0 : List Int) (r1 : Int) (r2 : Bool) (w : World) (hr0 : Kd.C (Kd.int .i64) w A0 l0.length l0) (hc0 : l0.length ≤ c0) (h : money_Sum_int64.f l0 = some (r1,r2)) :
  Calls Try.prog 47 #[.slice A0 l0.length c0] w fun e w' => e = .returned (.tuple #[.int .i64 r1, .bool r2]) ∧ Drawn0 w w' := by
 have HR := Aside0.mk hr0
 have HH := Aside0.mk h
 have hmax := hr0.2.1
 clear hr0 h
 go_enter Try.func47,Try.ntmps47
 go_wp2
 go_loop [4,5,11] (fun a b i => ∃ (k : Nat) (hi lo : Int),k ≤ l0.length ∧ i = .int .i64 k ∧ a = .int .u64 hi ∧ b = .int .u64 lo ∧ 0 ≤ hi ∧ hi ≤ 18446744073709551615 ∧ 0 ≤ lo ∧ lo ≤ 18446744073709551615 ∧ Aside0 (money_Sum_int64.SumInv l0 k hi lo)) (fun _ _ i => l0.length - (intOf i).toNat)
 case atStart => exact ⟨0,0,0,by omega,rfl,rfl,rfl,by omega,by omega,by omega,by omega,⟨money_Sum_int64.SumInv.start l0⟩⟩
 case round =>
  obtain ⟨k,hi,lo,hk,rfl,rfl,rfl,h0,h1,h2,h3,HI⟩ := hrel
  by_cases hlt : k < l0.length
  ·
   obtain ⟨ad,e,hc⟩ := Kd.at_int HR.out k (by omega) (by omega)
   cases e
   rw [Int.toNat_natCast] at hc
   obtain ⟨x,ex⟩ : ∃ x,x = rd l0 (k : Int) := ⟨_,rfl⟩
   rw [← ex] at hc
   have HX := Aside0.mk ex
   clear ex
   have hx : -9223372036854775808 ≤ x ∧ x ≤ 9223372036854775807 := by
    have h := HH.out
    unfold money_Sum_int64.f at h
    split at h
    ·
     rename_i g
     rw [HX.out]
     exact g _ (by simp [rd,hlt])
    ·
     cases h
   obtain ⟨hx0,hx1⟩ := hx
   have hw0 : 0 ≤ IntKind.u64.wrap x := by rw [money_Sum_int64.u64_wrap];omega
   obtain ⟨s,hs⟩ : ∃ s,s = (lo + IntKind.u64.wrap x) % 18446744073709551616 := ⟨_,rfl⟩
   obtain ⟨c,hcc⟩ : ∃ c,c = (lo + IntKind.u64.wrap x) / 18446744073709551616 := ⟨_,rfl⟩
   have had := money_Sum_int64.add64_at lo (IntKind.u64.wrap x) h2 hw0 w
   rw [← hs, ← hcc] at had
   have hs0 : 0 ≤ s ∧ s ≤ 18446744073709551615 := by omega
   obtain ⟨hs0,hs1⟩ := hs0
   have HS := Aside0.mk hs
   have HC := Aside0.mk hcc
   clear hs hcc hw0
   by_cases hneg : x < 0
   ·
    have HI' := money_Sum_int64.SumInv.neg HI.out hlt h2 h3 HX.out hneg hx0 HS.out HC.out
    have HI2 := Aside0.mk HI'
    clear HI'
    have hw2 : 0 ≤ IntKind.u64.wrap (IntKind.u64.wrap (hi + c) - 1) ∧ IntKind.u64.wrap (IntKind.u64.wrap (hi + c) - 1) ≤ 18446744073709551615 := by rw [money_Sum_int64.u64_wrap];omega
    have HW2 := Aside0.mk hw2
    clear hw2
    go_wp2
    go_round
    case rel => exact ⟨k + 1,_,_,by omega,by go_num,rfl,rfl,HW2.out.1,HW2.out.2,by omega,by omega,HI2⟩
    case measure => simp [intOf];omega
   ·
    have HI' := money_Sum_int64.SumInv.pos HI.out hlt h2 h3 HX.out hneg hx1 HS.out HC.out
    have HI2 := Aside0.mk HI'
    clear HI'
    have ew : IntKind.u64.wrap x = x := by rw [money_Sum_int64.u64_wrap];omega
    rw [ew] at had
    clear ew
    have hw2 : 0 ≤ IntKind.u64.wrap (hi + c) ∧ IntKind.u64.wrap (hi + c) ≤ 18446744073709551615 := by rw [money_Sum_int64.u64_wrap];omega
    have HW2 := Aside0.mk hw2
    clear hw2
    go_wp2
    go_round
    case rel => exact ⟨k + 1,_,_,by omega,by go_num,rfl,rfl,HW2.out.1,HW2.out.2,by omega,by omega,HI2⟩
    case measure => simp [intOf];omega
  ·
   have hk2 : k = l0.length := by omega
   have HR2 : (0 ≤ l0.sum ∧ l0.sum ≤ 9223372036854775807 ∧ hi = 0 ∧ lo = l0.sum) ∨ (-9223372036854775808 ≤ l0.sum ∧ l0.sum < 0 ∧ hi = 18446744073709551615 ∧ lo = l0.sum + 18446744073709551616) ∨ (¬ (-9223372036854775808 ≤ l0.sum ∧ l0.sum ≤ 9223372036854775807) ∧ ¬ (hi = 0 ∧ lo ≤ 9223372036854775807) ∧ ¬ (hi = 18446744073709551615 ∧ 9223372036854775808 ≤ lo)) := by
    obtain ⟨H,e,eq,g1,g2⟩ := HI.out
    rw [hk2,List.take_length] at eq
    omega
   have HRes : (r1,r2) = (if -9223372036854775808 ≤ l0.sum ∧ l0.sum ≤ 9223372036854775807 then (l0.sum,true) else (0,false)) := by
    have h := HH.out
    unfold money_Sum_int64.f at h
    split at h
    ·
     exact (Option.some.inj h).symm
    ·
     cases h
   clear hk2
   rcases HR2 with ⟨g1,g2,rfl,g4⟩ | ⟨g1,g2,rfl,g4⟩ | ⟨g1,g2,g3⟩
   ·
    rw [if_pos ⟨by omega,g2⟩] at HRes
    injection HRes with e1 e2
    subst e1 e2
    have hd1 : decide (lo ≤ 9223372036854775807) = true := decide_eq_true (by omega)
    have G4 := Aside0.mk (show wrap64 lo = l0.sum by unfold wrap64;omega)
    clear g1 g2 g4
    go_wp2
    go_ret2
    exact ⟨(show Ending.returned (.tuple #[.int .i64 (wrap64 lo), .bool true]) = _ by rw [G4.out]),Drawn0.refl _⟩
   ·
    rw [if_pos ⟨g1,by omega⟩] at HRes
    injection HRes with e1 e2
    subst e1 e2
    have hd1 : decide (9223372036854775808 ≤ lo) = true := decide_eq_true (by omega)
    have hd2 : decide (lo ≤ 9223372036854775807) = false := decide_eq_false (by omega)
    have G4 := Aside0.mk (show wrap64 lo = l0.sum by unfold wrap64;omega)
    clear g1 g2 g4
    go_wp2
    go_ret2
    exact ⟨(show Ending.returned (.tuple #[.int .i64 (wrap64 lo), .bool true]) = _ by rw [G4.out]),Drawn0.refl _⟩
   ·
    rw [if_neg g1] at HRes
    injection HRes with e1 e2
    subst e1 e2
    clear g1
    by_cases e0 : hi = 0
    ·
     subst e0
     have hd1 : decide (lo ≤ 9223372036854775807) = false := decide_eq_false (by omega)
     clear g2 g3
     go_wp2
     go_ret2
     exact ⟨rfl,Drawn0.refl _⟩
    ·
     have b0 : (hi == 0) = false := beq_eq_false_iff_ne.mpr e0
     by_cases e1 : hi = 18446744073709551615
     ·
      subst e1
      have hd1 : decide (9223372036854775808 ≤ lo) = false := decide_eq_false (by omega)
      clear g2 g3
      go_wp2
      go_ret2
      exact ⟨rfl,Drawn0.refl _⟩
     ·
      have b1 : (hi == 18446744073709551615) = false := beq_eq_false_iff_ne.mpr e1
      clear g2 g3 e0 e1
      go_wp2
      go_ret2
      exact ⟨rfl,Drawn0.refl _⟩

/-! ### aging_sound: function 33 (by hand) -/
def aging_sound.sndGo (last : Int) : List S31 → Bool
 | [] => true
 | r :: rs => decide (last < r.f0 ∧ r.f0 ≤ 3652059 ∧ 0 ≤ r.f1 ∧ 0 ≤ r.f2) && aging_sound.sndGo r.f0 rs
def aging_sound.amts (l : List S31) : List Int := l.flatMap fun r => [r.f1,r.f2]
def aging_sound.f (l0 : List S31) : Option Bool :=
 if (∀ r ∈ l0,r.f1 ≤ 9223372036854775807 ∧ r.f2 ≤ 9223372036854775807) ∧ l0.length ≤ 1000000000 then
  some (aging_sound.sndGo 0 l0 && decide ((aging_sound.amts l0).sum ≤ 9223372036854775807)) else none

theorem aging_sound.make_cap (P : Program) (t e : TypeId) (k : IntKind) (bytes : Nat) (ht : P.underlying t = some (.slice e)) (hinfo : (P.info? e).map (fun i => (i.zero,i.size,i.bytes)) = some (some (.int k 0),1,bytes))
  (m : Int) (h0 : 0 ≤ m) (hn : (bytes : Int) * m ≤ 281474976710656) (h63 : m ≤ 9223372036854775807) :
  ∀ W : World,(Instr.makeSlice t (.int .i64 0) (.int .i64 m)).run P W = .ok (.slice (some ⟨W.heap.size,0,none⟩) 0 m.toNat) (W.alloc (.cells (madeCells #[.int k 0] m.toNat) e)) := by
 intro W
 obtain ⟨i0,hi,hzz⟩ := Option.map_eq_some_iff.1 hinfo
 simp only [Prod.mk.injEq] at hzz
 obtain ⟨hz0,hz1,hz2⟩ := hzz
 rw [run_make W t e i0 _ ht hi hz0 .i64 .i64 0 m (by omega) h0 (by rw [hz2];exact hn) h63,hz1,Nat.mul_one]
 rfl
theorem aging_sound.own_made0 (W : World) (base : Nat) (e : TypeId) (k : IntKind) (m : Nat) (hb : base ≤ W.heap.size) (hm : m ≤ 9223372036854775807) :
  (W.alloc (.cells (madeCells #[.int k 0] m) e)).ownsRow base e 1 (.slice (some ⟨W.heap.size,0,none⟩) 0 m) ([] : List Int).length (nums k []) :=
 World.ownsRow_made W _ m hb hm (by simp [madeCells])

theorem aging_sound.info2' : (Try.prog.info? 2).map (fun i => (i.zero,i.size,i.bytes)) = some (some (.int .i64 0),1,8) := by kernel_rfl
theorem aging_sound.idx2 (x y : Int) (j : Nat) (hj : j < 2) : ∀ W : World,(Instr.index 59 (.agg #[.int .i64 x, .int .i64 y]) (.int .i64 (j : Int))).run Try.prog W = .ok (.int .i64 (if j = 0 then x else y)) W := by
 intro W
 have : j = 0 ∨ j = 1 := by omega
 rcases this with rfl | rfl
 ·
  exact (by kernel_rfl : (Instr.index 59 (.agg #[.int .i64 x, .int .i64 y]) (.int .i64 0)).run Try.prog W = .ok (.int .i64 x) W)
 ·
  exact (by kernel_rfl : (Instr.index 59 (.agg #[.int .i64 x, .int .i64 y]) (.int .i64 1)).run Try.prog W = .ok (.int .i64 y) W)


def aging_sound.lastOf (l : List S31) (k : Nat) : Int := if k = 0 then 0 else (rd_T31 l ((k : Int) - 1)).f0
def aging_sound.rowOk (last : Int) (r : S31) : Prop := last < r.f0 ∧ r.f0 ≤ 3652059 ∧ 0 ≤ r.f1 ∧ 0 ≤ r.f2
instance (last : Int) (r : S31) : Decidable (aging_sound.rowOk last r) := by unfold aging_sound.rowOk;infer_instance
theorem aging_sound.rd_T31_cons (a : S31) (l : List S31) (k : Nat) : rd_T31 (a :: l) ((k + 1 : Nat) : Int) = rd_T31 l (k : Int) := by
 unfold rd_T31;simp
theorem aging_sound.sndGo_take : ∀ (l : List S31) (last : Int) (k : Nat),k < l.length → aging_sound.sndGo last (l.take (k + 1)) = (aging_sound.sndGo last (l.take k) && decide (aging_sound.rowOk (if k = 0 then last else (rd_T31 l ((k : Int) - 1)).f0) (rd_T31 l k)))
 | [],_,_,h => by simp at h
 | a :: l,last,0,h => by simp [aging_sound.sndGo,rd_T31,aging_sound.rowOk]
 | a :: l,last,k + 1,h => by
  have ih := aging_sound.sndGo_take l a.f0 k (by simpa using h)
  rw [List.take_succ_cons,aging_sound.sndGo,ih,List.take_succ_cons,aging_sound.sndGo,aging_sound.rd_T31_cons,Bool.and_assoc]
  by_cases hk : k = 0
  ·
   subst hk;simp [rd_T31]
  ·
   have : (((k + 1 : Nat) : Int) - 1) = ((k - 1 + 1 : Nat) : Int) := by omega
   rw [if_neg hk,if_neg (by omega),this,aging_sound.rd_T31_cons]
   have : ((k : Int) - 1) = ((k - 1 : Nat) : Int) := by omega
   rw [this]
theorem aging_sound.sndGo_mono (l : List S31) : ∀ (last : Int) (k : Nat),aging_sound.sndGo last (l.take k) = false → aging_sound.sndGo last l = false := by
 induction l with
 | nil => intro last k h;simp [aging_sound.sndGo] at h
 | cons a l ih =>
  intro last k h
  cases k with
  | zero => simp [aging_sound.sndGo] at h
  | succ k =>
   rw [List.take_succ_cons,aging_sound.sndGo] at h
   rw [aging_sound.sndGo]
   rcases Bool.and_eq_false_iff.1 h with h | h
   ·
    rw [h];rfl
   ·
    rw [ih _ _ h];simp
theorem aging_sound.amts_take (l : List S31) (k : Nat) (h : k < l.length) : aging_sound.amts (l.take (k + 1)) = aging_sound.amts (l.take k) ++ [(rd_T31 l k).f1,(rd_T31 l k).f2] := by
 unfold aging_sound.amts
 rw [List.take_succ_eq_append_getElem h,List.flatMap_append]
 simp [rd_T31,h]
theorem aging_sound.amts_len (l : List S31) : (aging_sound.amts l).length = 2 * l.length := by
 unfold aging_sound.amts
 induction l with
 | nil => rfl
 | cons a l ih => simp [List.flatMap_cons] at ih ⊢;omega
theorem aging_sound.sound_no {l0 : List S31} {r : Bool} (h : aging_sound.f l0 = some r) (k : Nat) (hk : k < l0.length) (hn : ¬ aging_sound.rowOk (aging_sound.lastOf l0 k) (rd_T31 l0 k)) : r = false := by
 unfold aging_sound.f at h
 split at h
 ·
  have e := Option.some.inj h
  have : aging_sound.sndGo 0 l0 = false := aging_sound.sndGo_mono l0 0 (k + 1) (by rw [aging_sound.sndGo_take l0 0 k hk];unfold aging_sound.lastOf at hn;simp [hn])
  rw [this] at e
  simpa using e.symm
 ·
  cases h
theorem aging_sound.sound_step {l0 : List S31} (k : Nat) (hk : k < l0.length) (hs : aging_sound.sndGo 0 (l0.take k) = true) (hn : aging_sound.rowOk (aging_sound.lastOf l0 k) (rd_T31 l0 k)) : aging_sound.sndGo 0 (l0.take (k + 1)) = true := by
 rw [aging_sound.sndGo_take l0 0 k hk,hs];unfold aging_sound.lastOf at hn;simp [hn]
theorem aging_sound.sound_nonneg : ∀ (l : List S31) (last : Int),aging_sound.sndGo last l = true → ∀ x ∈ aging_sound.amts l,0 ≤ x
 | [],_,_,x,hx => by simp [aging_sound.amts] at hx
 | a :: l,last,h,x,hx => by
  rw [aging_sound.sndGo,Bool.and_eq_true,decide_eq_true_eq] at h
  unfold aging_sound.amts at hx
  rw [List.flatMap_cons,List.mem_append] at hx
  rcases hx with hx | hx
  ·
   simp at hx;rcases hx with rfl | rfl <;> omega
  ·
   exact aging_sound.sound_nonneg l a.f0 h.2 x hx
theorem aging_sound.sum_nonneg_of : ∀ (l : List Int),(∀ x ∈ l,0 ≤ x) → 0 ≤ l.sum
 | [],_ => by simp
 | a :: l,h => by
  have := aging_sound.sum_nonneg_of l (fun x hx => h x (by simp [hx]))
  have := h a (by simp)
  simp;omega
theorem aging_sound.sound_end {l0 : List S31} {r : Bool} (h : aging_sound.f l0 = some r) (hs : aging_sound.sndGo 0 l0 = true) : ∃ q,money_Sum_int64.f (aging_sound.amts l0) = some (q,r) := by
 unfold aging_sound.f at h
 split at h
 ·
  rename_i g
  have e := Option.some.inj h
  rw [hs,Bool.true_and] at e
  have hnn := aging_sound.sound_nonneg l0 0 hs
  have hsum := aging_sound.sum_nonneg_of _ hnn
  have hall : ∀ x ∈ aging_sound.amts l0, -9223372036854775808 ≤ x ∧ x ≤ 9223372036854775807 := by
   intro x hx
   refine ⟨by have := hnn x hx;omega,?_⟩
   unfold aging_sound.amts at hx
   rw [List.mem_flatMap] at hx
   obtain ⟨a,ha,hx⟩ := hx
   have := g.1 a ha
   simp at hx
   rcases hx with rfl | rfl <;> omega
  unfold money_Sum_int64.f
  rw [if_pos hall]
  by_cases hb : (aging_sound.amts l0).sum ≤ 9223372036854775807
  ·
   refine ⟨(aging_sound.amts l0).sum,?_⟩
   rw [if_pos ⟨by omega,hb⟩, ← e,decide_eq_true hb]
  ·
   refine ⟨0,?_⟩
   rw [if_neg (fun h => hb h.2), ← e,decide_eq_false hb]
 ·
  cases h

set_option maxRecDepth 100000 in
set_option maxHeartbeats 2000000 in
theorem aging_sound.calls (A0 : Option Addr) (c0 : Nat) (l0 : List S31) (r : Bool) (w : World) (hr0 : Kd.C k31 w A0 l0.length l0) (hc0 : l0.length ≤ c0) (h : aging_sound.f l0 = some r) :
  Calls Try.prog 33 #[.slice A0 l0.length c0] w fun e w' => e = .returned (.bool r) ∧ Below w.heap.size w w' := by
 have HR := Aside0.mk hr0
 have HH := Aside0.mk h
 have hlen : l0.length ≤ 1000000000 := by
  unfold aging_sound.f at h
  split at h
  ·
   rename_i g;exact g.2
  ·
   cases h
 clear hr0 h
 have hmul : IntKind.i64.wrap (2 * (l0.length : Int)) = 2 * (l0.length : Int) := IntWalk.i64_in _ (by omega)
 have hmk := aging_sound.make_cap Try.prog 57 2 .i64 8 Try.underlying57 aging_sound.info2' (2 * (l0.length : Int)) (by omega) (by omega) (by omega)
 have hui := Try.underlying31
 have HO := Aside0.mk (aging_sound.own_made0 w w.heap.size 2 .i64 (2 * (l0.length : Int)).toNat (Nat.le_refl _) (by omega))
 go_enter Try.func33,Try.ntmps33
 go_wp2
 go_step3
 go_wp2
 go_step3
 go_wp2
 clear hmul hmk
 go_loopw [3,4,5,16] (fun g la v i wr => ∃ (k : Nat) (L : Int),k ≤ l0.length ∧ i = .int .i64 k ∧ la = .int .i64 L ∧ Aside0 (L = aging_sound.lastOf l0 k) ∧ g = .bool true ∧ Aside0 (aging_sound.sndGo 0 (l0.take k) = true) ∧ Aside0 (wr.ownsRow w.heap.size 2 1 v (aging_sound.amts (l0.take k)).length (nums .i64 (aging_sound.amts (l0.take k)))) ∧ Aside0 (Below w.heap.size w wr)) (fun _ _ _ i _ => l0.length - (intOf i).toNat)
 case atStart => exact ⟨0,0,by omega,rfl,rfl,⟨rfl⟩,rfl,⟨rfl⟩,⟨HO.out⟩,⟨below_alloc (Below.refl _ _) _⟩⟩
 case round =>
  obtain ⟨k,L,hk,rfl,rfl,HL,rfl,HS,HV,HB⟩ := hrel
  by_cases hlt : k < l0.length
  ·
   obtain ⟨ad,e,hc0,hc1,hc2,hc3⟩ := at_T31 HR.out k (by omega) (by omega)
   cases e
   rw [Int.toNat_natCast] at hc0 hc1 hc2 hc3
   replace hc0 := pw_cell_below HB.out hc0
   replace hc1 := pw_cell_below HB.out hc1
   replace hc2 := pw_cell_below HB.out hc2
   replace hc3 := pw_cell_below HB.out hc3
   obtain ⟨x,ex⟩ : ∃ x,x = rd_T31 l0 (k : Int) := ⟨_,rfl⟩
   rw [← ex] at hc0 hc1 hc2 hc3
   have HX := Aside0.mk ex
   clear ex
   have hinr : r = false → (Ending.returned (.bool false) = Ending.returned (.bool r)) := fun h => by rw [h]
   by_cases g1 : x.f0 ≤ L
   ·
    have hr : r = false := aging_sound.sound_no HH.out k hlt (by unfold aging_sound.rowOk;rw [← HX.out, ← HL.out];omega)
    have hd1 : decide (x.f0 ≤ L) = true := decide_eq_true g1
    have HRF := Aside0.mk hr
    clear hr g1
    go_wp2
    rw [Exit.noGoto_ret]
    go_ret
    exact ⟨hinr HRF.out,by repeat (first | exact HB.out | apply below_alloc)⟩
   ·
    have hd1 : decide (x.f0 ≤ L) = false := decide_eq_false g1
    by_cases g2 : 3652059 < x.f0
    ·
     have hr : r = false := aging_sound.sound_no HH.out k hlt (by unfold aging_sound.rowOk;rw [← HX.out, ← HL.out];omega)
     have hd2 : decide (3652059 < x.f0) = true := decide_eq_true g2
     have HRF := Aside0.mk hr
     clear hr g1 g2
     go_wp2
     rw [Exit.noGoto_ret]
     go_ret
     exact ⟨hinr HRF.out,by repeat (first | exact HB.out | apply below_alloc)⟩
    ·
     have hd2 : decide (3652059 < x.f0) = false := decide_eq_false g2
     have G12 := Aside0.mk (And.intro g1 g2)
     clear g1 g2
     go_wp2
     go_loopw [3,5,36] (fun g v j wi => ∃ (n : Nat),n ≤ 2 ∧ j = .int .i64 n ∧ g = .bool true ∧ Aside0 ((0 < n → 0 ≤ x.f1) ∧ (1 < n → 0 ≤ x.f2)) ∧ Aside0 (wi.ownsRow w.heap.size 2 1 v (aging_sound.amts (l0.take k) ++ [x.f1,x.f2].take n).length (nums .i64 (aging_sound.amts (l0.take k) ++ [x.f1,x.f2].take n))) ∧ Aside0 (Below w.heap.size w wi)) (fun _ _ j _ => 2 - (intOf j).toNat)
     case atStart => exact ⟨0,by omega,rfl,rfl,⟨by omega,by omega⟩,⟨by simpa using (HV.out.alloc _)⟩,⟨below_alloc HB.out _⟩⟩
     case round =>
      obtain ⟨n,hn,rfl,rfl,HP,HVi,HBi⟩ := hrel
      by_cases hn2 : n < 2
      ·
       have hix := aging_sound.idx2 x.f1 x.f2 n hn2
       obtain ⟨y,hy⟩ : ∃ y,y = (if n = 0 then x.f1 else x.f2) := ⟨_,rfl⟩
       rw [← hy] at hix
       have HY := Aside0.mk hy
       clear hy
       by_cases hneg : y < 0
       ·
        have hr : r = false := aging_sound.sound_no HH.out k hlt (by
         unfold aging_sound.rowOk;rw [← HX.out, ← HL.out]
         have := HY.out
         split at this <;> omega)
        have HRF := Aside0.mk hr
        clear hr
        go_wp2
        rw [Exit.noGoto_ret]
        go_ret
        exact ⟨hinr HRF.out,HBi.out⟩
       ·
        have HLim := Aside0.mk (show ((aging_sound.amts (l0.take k) ++ [x.f1,x.f2].take n).length + 1) * 8 ≤ 140737488355328 by
         have h1 := aging_sound.amts_len (l0.take k)
         have h2 : ([x.f1,x.f2].take n).length ≤ 2 := by simp;omega
         rw [List.length_take] at h1
         rw [List.length_append];omega)
        go_wp2_with (at_builtin;(refine print_append_num (w0:=w) w.heap.size rfl (.tmp 41) (.tmp 43) 57 2 .i64 8 rfl Try.underlying57 aging_sound.info2' (by omega) u5 (aging_sound.amts (l0.take k) ++ [x.f1,x.f2].take n) y rfl rfl HVi.out HBi.out HBi.out.size ?hl ?_);(case hl => exact HLim.out);intro v1 w1 ho hb hg hat;clear hg hat;have HO1 := Aside0.mk ho;have HB1 := Aside0.mk hb;clear ho hb)
        go_roundw
        case rel => exact ⟨n + 1,by omega,by go_num,rfl,⟨by
         have h1 := HP.out;have h2 := HY.out
         have : n = 0 ∨ n = 1 := by omega
         rcases this with rfl | rfl
         ·
          simp at h2;exact ⟨fun _ => by omega,by omega⟩
         ·
          simp at h2;exact ⟨fun _ => h1.1 (by omega),fun _ => by omega⟩⟩,⟨by
         have e : [x.f1,x.f2].take (n + 1) = [x.f1,x.f2].take n ++ [y] := by
          have h2 := HY.out
          have : n = 0 ∨ n = 1 := by omega
          rcases this with rfl | rfl <;> simp at h2 <;> simp [h2]
         rw [e, ← List.append_assoc];exact HO1.out⟩,HB1⟩
        case measure => simp [intOf];omega
      ·
       have hn3 : n = 2 := by omega
       have HRow := Aside0.mk (show aging_sound.rowOk (aging_sound.lastOf l0 k) (rd_T31 l0 k) by
        have h1 := HP.out
        have h2 := G12.out
        rw [← HX.out, ← HL.out]
        exact ⟨by omega,by omega,h1.1 (by omega),h1.2 (by omega)⟩)
       have HV2 := Aside0.mk (show wr.ownsRow w.heap.size 2 1 u5 (aging_sound.amts (l0.take (k + 1))).length (nums .i64 (aging_sound.amts (l0.take (k + 1)))) by
        have h := HVi.out
        rw [hn3] at h
        rw [aging_sound.amts_take l0 k hlt, ← HX.out]
        exact h)
       clear hn3
       go_wp2
       go_roundw
       case rel => exact ⟨k + 1,x.f0,by omega,by go_num,rfl,⟨by unfold aging_sound.lastOf;rw [if_neg (by omega),HX.out];congr 2;omega⟩,rfl,⟨aging_sound.sound_step k hlt HS.out HRow.out⟩,HV2,HBi⟩
       case measure => simp [intOf];omega
  ·
   have hk2 : k = l0.length := by omega
   have hS := HS.out
   have hV := HV.out
   rw [hk2,List.take_length] at hS hV
   obtain ⟨q,hq⟩ := aging_sound.sound_end HH.out hS
   obtain ⟨A,cc,rfl,hrd⟩ := own_reads hV
   have hcc := own_le hV
   have HQ := Aside0.mk hq
   have HRd := Aside0.mk (Kd.C_of_reads (d:=(0 : Int)) (h1:=fun _ => rfl) hrd)
   have HCC := Aside0.mk hcc
   clear hk2 hS hV hq hrd hcc
   go_wp2_with (go_at_call 47;refine (money_Sum_int64.calls A cc (aging_sound.amts l0) q r _ ?c1 ?c2 HQ.out).mono ?_;(case c1 => exact HRd.out);(case c2 => exact HCC.out);rintro e w1 ⟨rfl,⟨m,rfl⟩⟩)
   rw [Exit.noGoto_ret]
   go_ret
   exact ⟨rfl,pw_below_drewN HB.out m⟩

end Go.Proofs.Ytncfoaglmggdhaa.Y
