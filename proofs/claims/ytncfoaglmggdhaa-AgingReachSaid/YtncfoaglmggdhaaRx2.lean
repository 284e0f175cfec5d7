-- Written by stubprint.py (wip/) of this work, over the kit's print.py; parts by hand.
import Derived.Test.YtncfoaglmggdhaaRx0
namespace Go.Proofs.Ytncfoaglmggdhaa.R
open Go.RowKit Go.Proofs.YtncfoaglmggdhaaW.PrintWords Go.Proofs.YtncfoaglmggdhaaW.PrintLast Go.Proofs.YtncfoaglmggdhaaW.PrintMore
attribute [local go_sem] max2_int min2_int max_two min_two max_three min_three max_four min_four   -- for this text's walks alone
set_option linter.unusedVariables false
set_option linter.unusedSimpArgs false

/-! ### arrearslaw10_copied: function 14 -/
def arrearslaw10_copied.f (l0 : List (S31)) : Option ((List (S31))) := if ([] : List (S31)).length + l0.length < 4398046511104 then (some (([] : List (S31)) ++ l0)) else (none)
set_option maxHeartbeats 8000000 in
set_option maxRecDepth 100000 in
theorem arrearslaw10_copied.calls (A0 : Option Addr) (c0 : Nat) (l0 : List (S31)) (r : List (S31)) (w : World) (hr0 : Kd.C k31 w A0 l0.length l0) (hc0 : l0.length ≤ c0) (h : arrearslaw10_copied.f l0 = some r) :
    Calls Try.prog 14 #[.slice A0 l0.length c0] w fun e w' => ∃ v0_ : Value, e = .returned (v0_) ∧ Kd.R k31 31 w' w.heap.size (fun _ => True) v0_ r ∧ Below w.heap.size w w' := by
  have HR0 := Aside0.mk hr0
  have HC0 := Aside0.mk hc0
  clear hr0 hc0
  have HB := Aside0.mk (Below.refl w.heap.size w)
  have H : (if ([] : List (S31)).length + l0.length < 4398046511104 then (some (([] : List (S31)) ++ l0)) else (none)) = some r := h
  clear h
  by_cases c2 : ([] : List (S31)).length + l0.length < 4398046511104
  · rw [if_pos c2] at H
    have LMc2 := Aside0.mk c2
    clear c2
    obtain ⟨y101, hy101⟩ : ∃ y_ : List (S31), y_ = (([] : List (S31)) ++ l0) := ⟨_, rfl⟩
    replace H : (some y101) = some r := by first | (rw [hy101]; with_reducible exact H) | (have H2_ := (Option.bind_some _ _).symm.trans H; rw [hy101]; with_reducible exact H2_) | (have H2_ := (Option.bind_some _ _).symm.trans H; with_reducible exact H2_) | with_reducible exact H | (rw [hy101]; exact H) | exact H
    have Ny101 := Aside0.mk hy101
    clear hy101
    obtain rfl := Option.some.inj H
    go_enter Try.func14, Try.ntmps14
    go_wp2_with (first | ((with_reducible refine gate_builtin (b := .append) (xs := #[.tmp 4, .tmp 5]) rfl ?_); at_builtin; refine Kd.R_append_rows k31 (w0 := w) w.heap.size rfl (.tmp 4) (.tmp 5) 22 31 (.agg #[(.int .i64 0), (.int .i64 0), (.int .i64 0), (.bool false)]) 32 rfl Try.underlying22 info31 rfl (by decide) (by omega) (.slice none 0 0) ([] : List (S31)) l0 _ _ _ (fun _ => True) (fun _ => False) rfl rfl ?aO ?aR (fun _ _ h => h) (fun _ h => h.elim) ?aF ?aB ?aS ?aL ?_; (case aR => repeat (first | exact HR0.out | (with_reducible refine Kd.C_alloc ?_ _) | (with_reducible refine Kd.C_drewN ?_ _) | (with_reducible refine Kd.C_drew ?_))); (case aB => exact (by repeat (first | (with_reducible first | exact HB.out | apply below_alloc | apply pw_below_drewN | apply below_drew1) | exact HB.out))); (case aF => exact (fun _ _ => trivial)); (case aO => exact ((Kd.R_nil _ _ _ _ (fun _ => True)))); (case aS => exact (below_size (by repeat (first | (with_reducible first | exact HB.out | apply below_alloc | apply pw_below_drewN | apply below_drew1) | exact HB.out)))); (case aL => have := LMc2.out; omega); intro v102 w3 ho hb hg hat; rw [← Ny101.out] at ho; have n0_ := Aside0.mk (hb); have n1_ := Aside0.mk (ho); clear HB; have HB := n0_; have HO103 := n1_; clear n0_ n1_; clear ho hb hg hat))
    go_ret
    exact ⟨_, by first | rfl | (simp [errW_none, errW_some] <;> rfl) | (simp [*, errW_none, errW_some] <;> rfl), by (with_reducible repeat (first | apply Kd.R_alloc | apply Kd.R_drewN | apply Kd.R_drew)); exact HO103.out, by repeat (first | (with_reducible first | exact HB.out | apply below_alloc | apply pw_below_drewN | apply below_drew1) | exact HB.out)⟩
  · rw [if_neg c2] at H
    exact absurd H (by simp)

-- NOT PRINTED: function 53 (bits_Add64)

/-! ### money_Sum_int64: function 47 (by hand) -/
def money_Sum_int64.f (l0 : List Int) : Option (Int × Bool) :=
  if (∀ x ∈ l0, -9223372036854775808 ≤ x ∧ x ≤ 9223372036854775807) then
    some (if -9223372036854775808 ≤ l0.sum ∧ l0.sum ≤ 9223372036854775807 then (l0.sum, true) else (0, false)) else none

theorem money_Sum_int64.add64_at (x y : Int) (hx : 0 ≤ x) (hy : 0 ≤ y) (w : World) :
    (callFunc 53 #[.int .u64 x, .int .u64 y, .int .u64 0]).run Try.prog w =
      .ok (.value (.tuple #[.int .u64 ((x + y) % 18446744073709551616), .int .u64 ((x + y) / 18446744073709551616)])) w := by
  rw [run_callFunc_extern Try.func53 (by kernel_rfl) (by kernel_rfl) (by kernel_rfl) (e := add64Entry) (by kernel_rfl), run_add64 x y 0 hx hy (by omega) (by omega)]
  simp only [Result.andThen, Int.add_zero]
theorem money_Sum_int64.u64_wrap (x : Int) : IntKind.u64.wrap x = x % 18446744073709551616 := by
  first | rfl | (simp [IntKind.wrap, IntKind.bits, IntKind.signed])

def money_Sum_int64.SumInv (l0 : List Int) (k : Nat) (hi lo : Int) : Prop := ∃ H : Int, hi = H % 18446744073709551616 ∧ H * 18446744073709551616 + lo = (l0.take k).sum ∧ -(k : Int) ≤ H ∧ H ≤ k

theorem money_Sum_int64.SumInv.start (l0 : List Int) : money_Sum_int64.SumInv l0 0 0 0 := ⟨0, by omega, by simp, by omega, by omega⟩
theorem money_Sum_int64.sum_take_succ (l0 : List Int) (k : Nat) (h : k < l0.length) : (l0.take (k + 1)).sum = (l0.take k).sum + rd l0 k := by
  rw [List.take_succ_eq_append_getElem h, List.sum_append_int]
  simp [rd, h]
theorem money_Sum_int64.SumInv.pos {l0 : List Int} {k : Nat} {hi lo x s c : Int} (h : money_Sum_int64.SumInv l0 k hi lo) (hk : k < l0.length) (hl0 : 0 ≤ lo) (hl1 : lo ≤ 18446744073709551615) (ex : x = rd l0 k) (hx : ¬ x < 0) (hx1 : x ≤ 9223372036854775807)
    (es : s = (lo + IntKind.u64.wrap x) % 18446744073709551616) (ec : c = (lo + IntKind.u64.wrap x) / 18446744073709551616) :
    money_Sum_int64.SumInv l0 (k + 1) (IntKind.u64.wrap (hi + c)) s := by
  obtain ⟨H, e, eq, h1, h2⟩ := h
  rw [money_Sum_int64.u64_wrap] at es ec ⊢
  refine ⟨H + c, ?_, ?_, by omega, by omega⟩
  · omega
  · rw [money_Sum_int64.sum_take_succ l0 k hk, ← ex]; omega
theorem money_Sum_int64.SumInv.neg {l0 : List Int} {k : Nat} {hi lo x s c : Int} (h : money_Sum_int64.SumInv l0 k hi lo) (hk : k < l0.length) (hl0 : 0 ≤ lo) (hl1 : lo ≤ 18446744073709551615) (ex : x = rd l0 k) (hx : x < 0) (hx1 : -9223372036854775808 ≤ x)
    (es : s = (lo + IntKind.u64.wrap x) % 18446744073709551616) (ec : c = (lo + IntKind.u64.wrap x) / 18446744073709551616) :
    money_Sum_int64.SumInv l0 (k + 1) (IntKind.u64.wrap (IntKind.u64.wrap (hi + c) - 1)) s := by
  obtain ⟨H, e, eq, h1, h2⟩ := h
  rw [money_Sum_int64.u64_wrap] at es ec
  rw [money_Sum_int64.u64_wrap, money_Sum_int64.u64_wrap]
  refine ⟨H + c - 1, ?_, ?_, by omega, by omega⟩
  · omega
  · rw [money_Sum_int64.sum_take_succ l0 k hk, ← ex]; omega

set_option maxRecDepth 100000 in
set_option maxHeartbeats 1000000 in
theorem money_Sum_int64.calls (A0 : Option Addr) (c0 : Nat) (l0 : List Int) (r1 : Int) (r2 : Bool) (w : World) (hr0 : Kd.C (Kd.int .i64) w A0 l0.length l0) (hc0 : l0.length ≤ c0) (h : money_Sum_int64.f l0 = some (r1, r2)) :
    Calls Try.prog 47 #[.slice A0 l0.length c0] w fun e w' => e = .returned (.tuple #[.int .i64 r1, .bool r2]) ∧ Drawn0 w w' := by
  have HR := Aside0.mk hr0
  have HH := Aside0.mk h
  have hmax := hr0.2.1
  clear hr0 h
  go_enter Try.func47, Try.ntmps47
  go_wp2
  go_loop [4, 5, 11] (fun a b i => ∃ (k : Nat) (hi lo : Int), k ≤ l0.length ∧ i = .int .i64 k ∧ a = .int .u64 hi ∧ b = .int .u64 lo ∧ 0 ≤ hi ∧ hi ≤ 18446744073709551615 ∧ 0 ≤ lo ∧ lo ≤ 18446744073709551615 ∧ Aside0 (money_Sum_int64.SumInv l0 k hi lo)) (fun _ _ i => l0.length - (intOf i).toNat)
  case atStart => exact ⟨0, 0, 0, by omega, rfl, rfl, rfl, by omega, by omega, by omega, by omega, ⟨money_Sum_int64.SumInv.start l0⟩⟩
  case round =>
    obtain ⟨k, hi, lo, hk, rfl, rfl, rfl, h0, h1, h2, h3, HI⟩ := hrel
    by_cases hlt : k < l0.length
    · obtain ⟨ad, e, hc⟩ := Kd.at_int HR.out k (by omega) (by omega)
      cases e
      rw [Int.toNat_natCast] at hc
      obtain ⟨x, ex⟩ : ∃ x, x = rd l0 (k : Int) := ⟨_, rfl⟩
      rw [← ex] at hc
      have HX := Aside0.mk ex
      clear ex
      have hx : -9223372036854775808 ≤ x ∧ x ≤ 9223372036854775807 := by
        have h := HH.out
        unfold money_Sum_int64.f at h
        split at h
        · rename_i g
          rw [HX.out]
          exact g _ (by simp [rd, hlt])
        · cases h
      obtain ⟨hx0, hx1⟩ := hx
      have hw0 : 0 ≤ IntKind.u64.wrap x := by rw [money_Sum_int64.u64_wrap]; omega
      obtain ⟨s, hs⟩ : ∃ s, s = (lo + IntKind.u64.wrap x) % 18446744073709551616 := ⟨_, rfl⟩
      obtain ⟨c, hcc⟩ : ∃ c, c = (lo + IntKind.u64.wrap x) / 18446744073709551616 := ⟨_, rfl⟩
      have had := money_Sum_int64.add64_at lo (IntKind.u64.wrap x) h2 hw0 w
      rw [← hs, ← hcc] at had
      have hs0 : 0 ≤ s ∧ s ≤ 18446744073709551615 := by omega
      obtain ⟨hs0, hs1⟩ := hs0
      have HS := Aside0.mk hs
      have HC := Aside0.mk hcc
      clear hs hcc hw0
      by_cases hneg : x < 0
      · have HI' := money_Sum_int64.SumInv.neg HI.out hlt h2 h3 HX.out hneg hx0 HS.out HC.out
        have HI2 := Aside0.mk HI'
        clear HI'
        have hw2 : 0 ≤ IntKind.u64.wrap (IntKind.u64.wrap (hi + c) - 1) ∧ IntKind.u64.wrap (IntKind.u64.wrap (hi + c) - 1) ≤ 18446744073709551615 := by rw [money_Sum_int64.u64_wrap]; omega
        have HW2 := Aside0.mk hw2
        clear hw2
        go_wp2
        go_round
        case rel => exact ⟨k + 1, _, _, by omega, by go_num, rfl, rfl, HW2.out.1, HW2.out.2, by omega, by omega, HI2⟩
        case measure => simp [intOf]; omega
      · have HI' := money_Sum_int64.SumInv.pos HI.out hlt h2 h3 HX.out hneg hx1 HS.out HC.out
        have HI2 := Aside0.mk HI'
        clear HI'
        have ew : IntKind.u64.wrap x = x := by rw [money_Sum_int64.u64_wrap]; omega
        rw [ew] at had
        clear ew
        have hw2 : 0 ≤ IntKind.u64.wrap (hi + c) ∧ IntKind.u64.wrap (hi + c) ≤ 18446744073709551615 := by rw [money_Sum_int64.u64_wrap]; omega
        have HW2 := Aside0.mk hw2
        clear hw2
        go_wp2
        go_round
        case rel => exact ⟨k + 1, _, _, by omega, by go_num, rfl, rfl, HW2.out.1, HW2.out.2, by omega, by omega, HI2⟩
        case measure => simp [intOf]; omega
    · have hk2 : k = l0.length := by omega
      have HR2 : (0 ≤ l0.sum ∧ l0.sum ≤ 9223372036854775807 ∧ hi = 0 ∧ lo = l0.sum) ∨ (-9223372036854775808 ≤ l0.sum ∧ l0.sum < 0 ∧ hi = 18446744073709551615 ∧ lo = l0.sum + 18446744073709551616) ∨ (¬ (-9223372036854775808 ≤ l0.sum ∧ l0.sum ≤ 9223372036854775807) ∧ ¬ (hi = 0 ∧ lo ≤ 9223372036854775807) ∧ ¬ (hi = 18446744073709551615 ∧ 9223372036854775808 ≤ lo)) := by
        obtain ⟨H, e, eq, g1, g2⟩ := HI.out
        rw [hk2, List.take_length] at eq
        omega
      have HRes : (r1, r2) = (if -9223372036854775808 ≤ l0.sum ∧ l0.sum ≤ 9223372036854775807 then (l0.sum, true) else (0, false)) := by
        have h := HH.out
        unfold money_Sum_int64.f at h
        split at h
        · exact (Option.some.inj h).symm
        · cases h
      clear hk2
      rcases HR2 with ⟨g1, g2, rfl, g4⟩ | ⟨g1, g2, rfl, g4⟩ | ⟨g1, g2, g3⟩
      · rw [if_pos ⟨by omega, g2⟩] at HRes
        injection HRes with e1 e2
        subst e1 e2
        have hd1 : decide (lo ≤ 9223372036854775807) = true := decide_eq_true (by omega)
        have G4 := Aside0.mk (show wrap64 lo = l0.sum by unfold wrap64; omega)
        clear g1 g2 g4
        go_wp2
        go_ret2
        exact ⟨(show Ending.returned (.tuple #[.int .i64 (wrap64 lo), .bool true]) = _ by rw [G4.out]), Drawn0.refl _⟩
      · rw [if_pos ⟨g1, by omega⟩] at HRes
        injection HRes with e1 e2
        subst e1 e2
        have hd1 : decide (9223372036854775808 ≤ lo) = true := decide_eq_true (by omega)
        have hd2 : decide (lo ≤ 9223372036854775807) = false := decide_eq_false (by omega)
        have G4 := Aside0.mk (show wrap64 lo = l0.sum by unfold wrap64; omega)
        clear g1 g2 g4
        go_wp2
        go_ret2
        exact ⟨(show Ending.returned (.tuple #[.int .i64 (wrap64 lo), .bool true]) = _ by rw [G4.out]), Drawn0.refl _⟩
      · rw [if_neg g1] at HRes
        injection HRes with e1 e2
        subst e1 e2
        clear g1
        by_cases e0 : hi = 0
        · subst e0
          have hd1 : decide (lo ≤ 9223372036854775807) = false := decide_eq_false (by omega)
          clear g2 g3
          go_wp2
          go_ret2
          exact ⟨rfl, Drawn0.refl _⟩
        · have b0 : (hi == 0) = false := beq_eq_false_iff_ne.mpr e0
          by_cases e1 : hi = 18446744073709551615
          · subst e1
            have hd1 : decide (9223372036854775808 ≤ lo) = false := decide_eq_false (by omega)
            clear g2 g3
            go_wp2
            go_ret2
            exact ⟨rfl, Drawn0.refl _⟩
          · have b1 : (hi == 18446744073709551615) = false := beq_eq_false_iff_ne.mpr e1
            clear g2 g3 e0 e1
            go_wp2
            go_ret2
            exact ⟨rfl, Drawn0.refl _⟩

end Go.Proofs.Ytncfoaglmggdhaa.R
