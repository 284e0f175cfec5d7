-- Written by stubprint.py (wip/) of this work, over the kit's print.py; parts by hand.
import Derived.Test.YtebjppnggjnghaaHx0
import Derived.Test.YtebjppnggjnghaaHx1
namespace Go.Proofs.Ytebjppnggjnghaa.H
open Go.RowKit Go.Proofs.YtebjppnggjnghaaW.PrintWords Go.Proofs.YtebjppnggjnghaaW.PrintLast Go.Proofs.YtebjppnggjnghaaW.PrintMore
attribute [local go_sem] max2_int min2_int max_two min_two max_three min_three max_four min_four   -- for this text's walks alone
set_option linter.unusedVariables false
set_option linter.unusedSimpArgs false

/-! ### arrearslaw4_told: function 14 (by hand) -/
def arrearslaw4_told.f (l0 l1 l2 : List Int) : Option Bool := if l0.length + 64 < 140737488355328 then some (decide (l0 = l2) && decide (l1 = l2)) else none
theorem arrearslaw4_told.same_loop (a b : List Int) (hl : a.length = b.length) (hm : a.length ≤ 9223372036854775807) (d : Nat) : ∀ (k i : Nat), i + d = a.length → d < k → arrearslaw4_same.l0 k a b (i : Int) = some (decide (a.drop i = b.drop i)) := by
  induction d with
  | zero =>
    intro k i hi hk
    obtain ⟨k, rfl⟩ : ∃ m, k = m + 1 := ⟨k - 1, by omega⟩
    simp only [arrearslaw4_same.l0]
    rw [if_neg (by omega), List.drop_eq_nil_of_le (by omega), List.drop_eq_nil_of_le (by omega)]; rfl
  | succ d ih =>
    intro k i hi hk
    obtain ⟨k, rfl⟩ : ∃ m, k = m + 1 := ⟨k - 1, by omega⟩
    have ea : a.drop i = rd a (i : Int) :: a.drop (i + 1) := by rw [show rd a (i : Int) = a[i] from by unfold rd; simp [show i < a.length from by omega]]; exact List.drop_eq_getElem_cons (by omega)
    have eb : b.drop i = rd b (i : Int) :: b.drop (i + 1) := by rw [show rd b (i : Int) = b[i] from by unfold rd; simp [show i < b.length from by omega]]; exact List.drop_eq_getElem_cons (by omega)
    simp only [arrearslaw4_same.l0]
    rw [if_pos (by omega), if_pos (by omega), if_pos (by omega), show wrap64 ((i : Int) + 1) = ((i + 1 : Nat) : Int) from by unfold wrap64; omega, ih k (i + 1) (by omega) (by omega), ea, eb]
    by_cases c : rd a (i : Int) = rd b (i : Int)
    · rw [if_pos c]; simp [c]
    · rw [if_neg c]; simp [c]
theorem arrearslaw4_told.same_is (a b : List Int) (hm : a.length ≤ 9223372036854775807) (k : Nat) (hk : a.length < k) : arrearslaw4_same.f k a b = some (decide (a = b)) := by
  unfold arrearslaw4_same.f
  by_cases c : (a.length : Int) = (b.length : Int)
  · rw [if_pos c, show arrearslaw4_same.l0 k a b 0 = _ from arrearslaw4_told.same_loop a b (by omega) hm a.length k 0 (by omega) hk]; rfl
  · rw [if_neg c, decide_eq_false (fun h => c (by rw [h]))]
theorem arrearslaw4_told.same_calls (A0 : Option Addr) (c0 : Nat) (l0 : List Int) (A1 : Option Addr) (c1 : Nat) (l1 : List Int) (r : Bool) (w : World) (hr0 : Kd.C (Kd.int .u8) w A0 l0.length l0) (hc0 : l0.length ≤ c0) (hr1 : Kd.C (Kd.int .u8) w A1 l1.length l1) (hc1 : l1.length ≤ c1) (h : decide (l0 = l1) = r) :
    Calls Try.prog 9 #[.slice A0 l0.length c0, .slice A1 l1.length c1] w fun e w' => e = .returned (.bool r) ∧ Drawn0 w w' :=
  arrearslaw4_same.calls (l0.length + 1) A0 c0 l0 A1 c1 l1 r w hr0 hc0 hr1 hc1 (by rw [arrearslaw4_told.same_is l0 l1 hr0.2.1 _ (by omega), h])
set_option maxRecDepth 100000 in
set_option maxHeartbeats 1000000 in
theorem arrearslaw4_told.calls (P0_ : Nat → Prop) (u9000_ : Value) (l0 : List Int) (A1 : Option Addr) (c1 : Nat) (l1 : List Int) (A2 : Option Addr) (c2 : Nat) (l2 : List Int) (r : Bool) (w0 w : World) (hB : Below w0.heap.size w0 w) (ho0 : Kd.R (Kd.int .u8) 5 w w0.heap.size P0_ u9000_ l0) (hr1 : ∀ W_, Kept w W_ (fun k_ => P0_ k_) → Kd.C (Kd.int .u8) W_ A1 l1.length l1) (hc1 : l1.length ≤ c1) (hr2 : ∀ W_, Kept w W_ (fun k_ => P0_ k_) → Kd.C (Kd.int .u8) W_ A2 l2.length l2) (hc2 : l2.length ≤ c2) (h : arrearslaw4_told.f l0 l1 l2 = some r) :
    Calls Try.prog 14 #[u9000_, .slice A1 l1.length c1, .slice A2 l2.length c2] w fun e w' => e = .returned (.bool r) ∧ Below w0.heap.size w0 w' ∧ Kept w w' (fun k_ => P0_ k_) := by
  unfold arrearslaw4_told.f at h
  split at h
  case isFalse => cases h
  rename_i hlim
  replace h := Option.some.inj h
  obtain ⟨A, c, rfl, hle, hC⟩ := Kd.R_reads ho0
  have HO := Aside0.mk (show Kd.R (Kd.int .u8) 5 w w0.heap.size (fun k_ => (P0_ k_ ∨ w.heap.size ≤ k_)) (.slice A l0.length c) l0 from Kd.R_mono ho0 (fun k_ hk => (.inl hk)))
  have HP := Aside0.mk ho0.1
  have HB := Aside0.mk hB
  have HC0 := Aside0.mk hC
  have HR1 := Aside0.mk hr1
  have HR2 := Aside0.mk hr2
  have HE0 := Aside0.mk hle
  have HE1 := Aside0.mk hc1
  have HE2 := Aside0.mk hc2
  have HL := Aside0.mk hlim
  have hmax : l0.length ≤ 9223372036854775807 := hC.2.1
  have hmax2 : l2.length ≤ 9223372036854775807 := (hr2 w (Kept.refl _ _)).2.1
  clear ho0 hB hC hr1 hr2 hle hc1 hc2 hlim
  obtain ⟨t1, ht1⟩ : ∃ t1, decide (l0 = l2) = t1 := ⟨_, rfl⟩
  obtain ⟨t2, ht2⟩ : ∃ t2, decide (l1 = l2) = t2 := ⟨_, rfl⟩
  rw [ht1, ht2] at h
  have HLEN := Aside0.mk (show t1 = true → l0.length = l2.length from fun h => by rw [h] at ht1; rw [of_decide_eq_true ht1])
  have HT1 := Aside0.mk ht1
  have HT2 := Aside0.mk ht2
  have HH := Aside0.mk h
  clear ht1 ht2 h
  cases t1 with
  | false =>
    have HRr := Aside0.mk (show Ending.returned (.bool false) = Ending.returned (.bool r) from by rw [← HH.out]; rfl)
    go_enter Try.func14, Try.ntmps14
    go_wp2_with (fail)
    refine (arrearslaw4_told.same_calls A c l0 A2 c2 l2 false _ HC0.out HE0.out (HR2.out _ (Kept.refl _ _)) HE2.out HT1.out).mono ?_
    rintro e w1 ⟨rfl, ⟨m, rfl⟩⟩
    go_wp2_with (fail)
    go_loopw [8] (fun i wr => ∃ (k : Nat) (xs : List Int), k ≤ l0.length ∧ i = .int .i64 k ∧ Aside0 (xs.length = l0.length) ∧ Aside0 (Kd.R (Kd.int .u8) 5 wr w0.heap.size (fun k_ => (P0_ k_ ∨ w.heap.size ≤ k_)) (.slice A l0.length c) xs) ∧ Aside0 (Kept w wr (fun k_ => P0_ k_)) ∧ Aside0 (Below w0.heap.size w0 wr)) (fun i _ => l0.length - (intOf i).toNat)
    case atStart => exact ⟨0, l0, by omega, rfl, ⟨rfl⟩, ⟨by (with_reducible repeat (first | apply Kd.R_drewN)); exact HO.out⟩, ⟨by (with_reducible repeat (first | apply Kept.drewN)); exact Kept.refl _ _⟩, ⟨by (with_reducible repeat (first | apply pw_below_drewN)); exact HB.out⟩⟩
    case round =>
      obtain ⟨k, xs, hk, rfl, HXL, HR, HK, HBr⟩ := hrel
      by_cases hlt : k < l0.length
      · have hxl := HXL.out
        obtain ⟨g, cap, hv, hbg, hgl, cells, hcells⟩ := Kd.R_form HR.out (by omega)
        rw [hxl] at hv
        injection hv with hA _ hcc
        subst hA hcc
        have hPg : P0_ g := HP.out g rfl
        have HPG := Aside0.mk hPg
        obtain ⟨ad2, e2, hd0⟩ := Kd.at_int (Kd.R_reads' HR.out).2.2 (k : Int) (by omega) (by omega)
        injection e2 with e2
        subst e2
        rw [add_plain, Int.toNat_natCast] at hd0
        have HCc := Aside0.mk (show ∀ j u, [Value.int .u8 (rd xs (k : Int))][j]? = some u → wr.cell? ⟨g, (k : Int).toNat * (Kd.int .u8).sz + j, none⟩ = some u from by
          intro j u hj
          match j, hj with
          | 0, hj => cases hj; simpa [show (Kd.int .u8).sz = 1 from rfl] using hd0)
        clear hd0 hcells hxl hPg
        go_wp2_with (refine Kd.R_store (Kd.int .u8) (w0 := w0) w0.heap.size rfl rfl 5 (.tmp 26) (.const (.int .u8 211)) rfl 5 (g := g) (n := l0.length) (cap := c) (k : Int) 0 xs (211 : Int) (.int .u8 211) [.int .u8 211] [.int .u8 (rd xs (k : Int))] (fun k_ => (P0_ k_ ∨ w.heap.size ≤ k_)) (fun _ => False) rfl ?hf rfl rfl ?ht ?h1 HR.out (by omega) (by omega) rfl ?hcc (Nat.le_refl _) rfl (fun _ h => h.elim) HBr.out ?_; (case hf => simp [show (Kd.int .u8).sz = 1 from rfl]); (case ht => kernel_rfl); (case h1 => simp [Value.oneCell']); (case hcc => exact HCc.out); intro w1 ho hb hg; have HO1 := Aside0.mk ho; have HB1 := Aside0.mk hb; have HG := Aside0.mk hg; clear ho hb hg)
        go_roundw
        case rel => exact ⟨k + 1, _, by omega, by go_num, ⟨by rw [List.length_set]; exact HXL.out⟩, HO1, ⟨Kept.of_grown HG.out HK.out (fun k_ e_ => by injection e_ with e_; subst e_; exact .inl HPG.out)⟩, HB1⟩
        case measure => simp [intOf]; omega
      · go_wp2_with (at_builtin; refine Kd.R_append_zeros (Kd.int .u8) (w0 := w0) w0.heap.size rfl (.tmp 27) (.const (.int .i64 64)) 25 3 5 (.int .u8 0) 1 rfl Try.underlying25 Try.underlying3 info5 rfl (by decide) (by omega) (.slice A l0.length c) xs 0 (64 : Int) (fun k_ => (P0_ k_ ∨ w.heap.size ≤ k_)) rfl rfl rfl ?aF HR.out (by omega) HBr.out HBr.out.size ?aL ?_; (case aF => exact fun k_ hk => .inr (Nat.le_trans HK.out.1 hk)); (case aL => have := HL.out; have := HXL.out; simp; omega); intro v1 w1 ho hb hg hat; obtain ⟨Al, cl, rfl, hle1, hC1⟩ := Kd.R_reads ho; have HB1 := Aside0.mk hb; have HK1 := Aside0.mk (Kept.of_grown hg HK.out (fun k_ e_ => .inl (HP.out k_ e_))); have HLl := Aside0.mk (show (xs ++ List.replicate (64 : Int).toNat 0).length = l0.length + 64 from by rw [List.length_append, HXL.out]; simp); clear ho hb hg hat hle1 hC1)
        skip
        go_ret
        exact ⟨HRr.out, HB1.out, HK1.out⟩
  | true =>
    cases t2 with
    | false =>
      have HRr := Aside0.mk (show Ending.returned (.bool false) = Ending.returned (.bool r) from by rw [← HH.out]; rfl)
      go_enter Try.func14, Try.ntmps14
      go_wp2_with (fail)
      refine (arrearslaw4_told.same_calls A c l0 A2 c2 l2 true _ HC0.out HE0.out (HR2.out _ (Kept.refl _ _)) HE2.out HT1.out).mono ?_
      rintro e w1 ⟨rfl, ⟨m, rfl⟩⟩
      go_wp2_with (fail)
      refine (arrearslaw4_told.same_calls A1 c1 l1 A2 c2 l2 false _ (HR1.out _ (by (with_reducible repeat (first | apply Kept.drewN)); exact Kept.refl _ _)) HE1.out (HR2.out _ (by (with_reducible repeat (first | apply Kept.drewN)); exact Kept.refl _ _)) HE2.out HT2.out).mono ?_
      rintro e w2 ⟨rfl, ⟨m2, rfl⟩⟩
      go_wp2_with (fail)
      go_loopw [8] (fun i wr => ∃ (k : Nat) (xs : List Int), k ≤ l0.length ∧ i = .int .i64 k ∧ Aside0 (xs.length = l0.length) ∧ Aside0 (Kd.R (Kd.int .u8) 5 wr w0.heap.size (fun k_ => (P0_ k_ ∨ w.heap.size ≤ k_)) (.slice A l0.length c) xs) ∧ Aside0 (Kept w wr (fun k_ => P0_ k_)) ∧ Aside0 (Below w0.heap.size w0 wr)) (fun i _ => l0.length - (intOf i).toNat)
      case atStart => exact ⟨0, l0, by omega, rfl, ⟨rfl⟩, ⟨by (with_reducible repeat (first | apply Kd.R_drewN)); exact HO.out⟩, ⟨by (with_reducible repeat (first | apply Kept.drewN)); exact Kept.refl _ _⟩, ⟨by (with_reducible repeat (first | apply pw_below_drewN)); exact HB.out⟩⟩
      case round =>
        obtain ⟨k, xs, hk, rfl, HXL, HR, HK, HBr⟩ := hrel
        by_cases hlt : k < l0.length
        · have hxl := HXL.out
          obtain ⟨g, cap, hv, hbg, hgl, cells, hcells⟩ := Kd.R_form HR.out (by omega)
          rw [hxl] at hv
          injection hv with hA _ hcc
          subst hA hcc
          have hPg : P0_ g := HP.out g rfl
          have HPG := Aside0.mk hPg
          obtain ⟨ad2, e2, hd0⟩ := Kd.at_int (Kd.R_reads' HR.out).2.2 (k : Int) (by omega) (by omega)
          injection e2 with e2
          subst e2
          rw [add_plain, Int.toNat_natCast] at hd0
          have HCc := Aside0.mk (show ∀ j u, [Value.int .u8 (rd xs (k : Int))][j]? = some u → wr.cell? ⟨g, (k : Int).toNat * (Kd.int .u8).sz + j, none⟩ = some u from by
            intro j u hj
            match j, hj with
            | 0, hj => cases hj; simpa [show (Kd.int .u8).sz = 1 from rfl] using hd0)
          clear hd0 hcells hxl hPg
          go_wp2_with (refine Kd.R_store (Kd.int .u8) (w0 := w0) w0.heap.size rfl rfl 5 (.tmp 26) (.const (.int .u8 211)) rfl 5 (g := g) (n := l0.length) (cap := c) (k : Int) 0 xs (211 : Int) (.int .u8 211) [.int .u8 211] [.int .u8 (rd xs (k : Int))] (fun k_ => (P0_ k_ ∨ w.heap.size ≤ k_)) (fun _ => False) rfl ?hf rfl rfl ?ht ?h1 HR.out (by omega) (by omega) rfl ?hcc (Nat.le_refl _) rfl (fun _ h => h.elim) HBr.out ?_; (case hf => simp [show (Kd.int .u8).sz = 1 from rfl]); (case ht => kernel_rfl); (case h1 => simp [Value.oneCell']); (case hcc => exact HCc.out); intro w1 ho hb hg; have HO1 := Aside0.mk ho; have HB1 := Aside0.mk hb; have HG := Aside0.mk hg; clear ho hb hg)
          go_roundw
          case rel => exact ⟨k + 1, _, by omega, by go_num, ⟨by rw [List.length_set]; exact HXL.out⟩, HO1, ⟨Kept.of_grown HG.out HK.out (fun k_ e_ => by injection e_ with e_; subst e_; exact .inl HPG.out)⟩, HB1⟩
          case measure => simp [intOf]; omega
        · go_wp2_with (at_builtin; refine Kd.R_append_zeros (Kd.int .u8) (w0 := w0) w0.heap.size rfl (.tmp 27) (.const (.int .i64 64)) 25 3 5 (.int .u8 0) 1 rfl Try.underlying25 Try.underlying3 info5 rfl (by decide) (by omega) (.slice A l0.length c) xs 0 (64 : Int) (fun k_ => (P0_ k_ ∨ w.heap.size ≤ k_)) rfl rfl rfl ?aF HR.out (by omega) HBr.out HBr.out.size ?aL ?_; (case aF => exact fun k_ hk => .inr (Nat.le_trans HK.out.1 hk)); (case aL => have := HL.out; have := HXL.out; simp; omega); intro v1 w1 ho hb hg hat; obtain ⟨Al, cl, rfl, hle1, hC1⟩ := Kd.R_reads ho; have HB1 := Aside0.mk hb; have HK1 := Aside0.mk (Kept.of_grown hg HK.out (fun k_ e_ => .inl (HP.out k_ e_))); have HLl := Aside0.mk (show (xs ++ List.replicate (64 : Int).toNat 0).length = l0.length + 64 from by rw [List.length_append, HXL.out]; simp); clear ho hb hg hat hle1 hC1)
          skip
          go_ret
          exact ⟨HRr.out, HB1.out, HK1.out⟩
    | true =>
      go_enter Try.func14, Try.ntmps14
      go_wp2_with (fail)
      refine (arrearslaw4_told.same_calls A c l0 A2 c2 l2 true _ HC0.out HE0.out (HR2.out _ (Kept.refl _ _)) HE2.out HT1.out).mono ?_
      rintro e w1 ⟨rfl, ⟨m, rfl⟩⟩
      go_wp2_with (fail)
      refine (arrearslaw4_told.same_calls A1 c1 l1 A2 c2 l2 true _ (HR1.out _ (by (with_reducible repeat (first | apply Kept.drewN)); exact Kept.refl _ _)) HE1.out (HR2.out _ (by (with_reducible repeat (first | apply Kept.drewN)); exact Kept.refl _ _)) HE2.out HT2.out).mono ?_
      rintro e w2 ⟨rfl, ⟨m2, rfl⟩⟩
      go_wp2_with (fail)
      go_loopw [8] (fun i wr => ∃ (k : Nat) (xs : List Int), k ≤ l0.length ∧ i = .int .i64 k ∧ Aside0 (xs.length = l0.length) ∧ Aside0 (Kd.R (Kd.int .u8) 5 wr w0.heap.size (fun k_ => (P0_ k_ ∨ w.heap.size ≤ k_)) (.slice A l0.length c) xs) ∧ Aside0 (Kept w wr (fun k_ => P0_ k_)) ∧ Aside0 (Below w0.heap.size w0 wr)) (fun i _ => l0.length - (intOf i).toNat)
      case atStart => exact ⟨0, l0, by omega, rfl, ⟨rfl⟩, ⟨by (with_reducible repeat (first | apply Kd.R_drewN)); exact HO.out⟩, ⟨by (with_reducible repeat (first | apply Kept.drewN)); exact Kept.refl _ _⟩, ⟨by (with_reducible repeat (first | apply pw_below_drewN)); exact HB.out⟩⟩
      case round =>
        obtain ⟨k, xs, hk, rfl, HXL, HR, HK, HBr⟩ := hrel
        by_cases hlt : k < l0.length
        · have hxl := HXL.out
          obtain ⟨g, cap, hv, hbg, hgl, cells, hcells⟩ := Kd.R_form HR.out (by omega)
          rw [hxl] at hv
          injection hv with hA _ hcc
          subst hA hcc
          have hPg : P0_ g := HP.out g rfl
          have HPG := Aside0.mk hPg
          obtain ⟨ad2, e2, hd0⟩ := Kd.at_int (Kd.R_reads' HR.out).2.2 (k : Int) (by omega) (by omega)
          injection e2 with e2
          subst e2
          rw [add_plain, Int.toNat_natCast] at hd0
          have HCc := Aside0.mk (show ∀ j u, [Value.int .u8 (rd xs (k : Int))][j]? = some u → wr.cell? ⟨g, (k : Int).toNat * (Kd.int .u8).sz + j, none⟩ = some u from by
            intro j u hj
            match j, hj with
            | 0, hj => cases hj; simpa [show (Kd.int .u8).sz = 1 from rfl] using hd0)
          clear hd0 hcells hxl hPg
          go_wp2_with (refine Kd.R_store (Kd.int .u8) (w0 := w0) w0.heap.size rfl rfl 5 (.tmp 26) (.const (.int .u8 211)) rfl 5 (g := g) (n := l0.length) (cap := c) (k : Int) 0 xs (211 : Int) (.int .u8 211) [.int .u8 211] [.int .u8 (rd xs (k : Int))] (fun k_ => (P0_ k_ ∨ w.heap.size ≤ k_)) (fun _ => False) rfl ?hf rfl rfl ?ht ?h1 HR.out (by omega) (by omega) rfl ?hcc (Nat.le_refl _) rfl (fun _ h => h.elim) HBr.out ?_; (case hf => simp [show (Kd.int .u8).sz = 1 from rfl]); (case ht => kernel_rfl); (case h1 => simp [Value.oneCell']); (case hcc => exact HCc.out); intro w1 ho hb hg; have HO1 := Aside0.mk ho; have HB1 := Aside0.mk hb; have HG := Aside0.mk hg; clear ho hb hg)
          go_roundw
          case rel => exact ⟨k + 1, _, by omega, by go_num, ⟨by rw [List.length_set]; exact HXL.out⟩, HO1, ⟨Kept.of_grown HG.out HK.out (fun k_ e_ => by injection e_ with e_; subst e_; exact .inl HPG.out)⟩, HB1⟩
          case measure => simp [intOf]; omega
        · go_wp2_with (at_builtin; refine Kd.R_append_zeros (Kd.int .u8) (w0 := w0) w0.heap.size rfl (.tmp 27) (.const (.int .i64 64)) 25 3 5 (.int .u8 0) 1 rfl Try.underlying25 Try.underlying3 info5 rfl (by decide) (by omega) (.slice A l0.length c) xs 0 (64 : Int) (fun k_ => (P0_ k_ ∨ w.heap.size ≤ k_)) rfl rfl rfl ?aF HR.out (by omega) HBr.out HBr.out.size ?aL ?_; (case aF => exact fun k_ hk => .inr (Nat.le_trans HK.out.1 hk)); (case aL => have := HL.out; have := HXL.out; simp; omega); intro v1 w1 ho hb hg hat; obtain ⟨Al, cl, rfl, hle1, hC1⟩ := Kd.R_reads ho; have HB1 := Aside0.mk hb; have HK1 := Aside0.mk (Kept.of_grown hg HK.out (fun k_ e_ => .inl (HP.out k_ e_))); have HLl := Aside0.mk (show (xs ++ List.replicate (64 : Int).toNat 0).length = l0.length + 64 from by rw [List.length_append, HXL.out]; simp); clear ho hb hg hat hle1 hC1)
          skip
          go_wp2_with (go_at_call 9; refine (arrearslaw4_told.same_calls A1 c1 l1 A2 c2 l2 true _ (HR1.out _ HK1.out) HE1.out (HR2.out _ HK1.out) HE2.out HT2.out).mono ?_; rintro e w3 ⟨rfl, ⟨m3, rfl⟩⟩)
          go_ret
          have hfin : ((xs.length : Int) + 64 == wrap64 ((l2.length : Int) + 64)) = r := by
            have e1 := HXL.out
            have e2 : l0.length = l2.length := by first | exact HLEN.out rfl | exact HLEN.out trivial | simpa using HLEN.out
            have e3 := HL.out
            rw [← HH.out, show wrap64 ((l2.length : Int) + 64) = (l2.length : Int) + 64 from by unfold wrap64; omega]
            exact beq_iff_eq.2 (by omega)
          exact ⟨(show Ending.returned (.bool ((xs.length : Int) + 64 == wrap64 ((l2.length : Int) + 64))) = Ending.returned (.bool r) from by rw [hfin]), pw_below_drewN HB1.out m3, Kept.drewN HK1.out m3⟩

end Go.Proofs.Ytebjppnggjnghaa.H
