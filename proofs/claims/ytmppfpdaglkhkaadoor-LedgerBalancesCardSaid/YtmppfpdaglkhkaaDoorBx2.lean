-- Written by stubprint.py (wip/) of this work, over the kit's print.py; parts by hand.
import Derived.Test.YtmppfpdaglkhkaaDoorBx0
import Derived.Test.YtmppfpdaglkhkaaDoorBx1
namespace Go.Proofs.YtmppfpdaglkhkaaDoor.B
open Go.RowKit Go.Proofs.YtmppfpdaglkhkaaDoorW.PrintWords Go.Proofs.YtmppfpdaglkhkaaDoorW.PrintLast Go.Proofs.YtmppfpdaglkhkaaDoorW.PrintMore
attribute [local go_sem] max2_int min2_int max_two min_two max_three min_three max_four min_four   -- for this text's walks alone
set_option linter.unusedVariables false
set_option linter.unusedSimpArgs false

/-! ### arrearsref8_Balance: function 13 (by hand) -/
theorem arrearsref8_Balance.twelve {o : Int} (h0 : 0 ≤ o) (h1 : o < 12) : o = 0 ∨ o = 1 ∨ o = 2 ∨ o = 3 ∨ o = 4 ∨ o = 5 ∨ o = 6 ∨ o = 7 ∨ o = 8 ∨ o = 9 ∨ o = 10 ∨ o = 11 := by omega
def arrearsref8_Balance.net (a0_0 : Int) (a0_1 : Int) (a0_2 : Int) (a0_3 : Int) (a0_4 : Int) (a0_5 : Int) (a0_6 : Int) (a0_7 : Int) (a0_8 : Int) (a0_9 : Int) (a0_10 : Int) (a0_11 : Int) (o : Int) : Int := ([a0_0, a0_1, a0_2, a0_3, a0_4, a0_5, a0_6, a0_7, a0_8, a0_9, a0_10, a0_11] : List Int).getD o.toNat 0
theorem arrearsref8_Balance.row (a0_0 : Int) (a0_1 : Int) (a0_2 : Int) (a0_3 : Int) (a0_4 : Int) (a0_5 : Int) (a0_6 : Int) (a0_7 : Int) (a0_8 : Int) (a0_9 : Int) (a0_10 : Int) (a0_11 : Int) (o : Int) (h0 : 0 ≤ o) (h1 : o < 12) : (#[.int .i64 a0_0, .int .i64 a0_1, .int .i64 a0_2, .int .i64 a0_3, .int .i64 a0_4, .int .i64 a0_5, .int .i64 a0_6, .int .i64 a0_7, .int .i64 a0_8, .int .i64 a0_9, .int .i64 a0_10, .int .i64 a0_11] : Array Value)[o.toNat]? = some (.int .i64 (arrearsref8_Balance.net a0_0 a0_1 a0_2 a0_3 a0_4 a0_5 a0_6 a0_7 a0_8 a0_9 a0_10 a0_11 o)) := by
  rcases arrearsref8_Balance.twelve h0 h1 with rfl | rfl | rfl | rfl | rfl | rfl | rfl | rfl | rfl | rfl | rfl | rfl <;> rfl
def arrearsref8_Balance.f (a0_0 : Int) (a0_1 : Int) (a0_2 : Int) (a0_3 : Int) (a0_4 : Int) (a0_5 : Int) (a0_6 : Int) (a0_7 : Int) (a0_8 : Int) (a0_9 : Int) (a0_10 : Int) (a0_11 : Int) (a1 : Int) : Option (Int × Int) := (arrearsref8_is.f a1).bind fun t => if t = true then (if 0 ≤ a1 then (if a1 < 12 then (arrearsref8_Debits.f a1).bind fun d => some (if d = true then (arrearsref8_Balance.net a0_0 a0_1 a0_2 a0_3 a0_4 a0_5 a0_6 a0_7 a0_8 a0_9 a0_10 a0_11 a1, 0) else if arrearsref8_Balance.net a0_0 a0_1 a0_2 a0_3 a0_4 a0_5 a0_6 a0_7 a0_8 a0_9 a0_10 a0_11 a1 = -9223372036854775808 then (0, 3) else (wrap64 (-(arrearsref8_Balance.net a0_0 a0_1 a0_2 a0_3 a0_4 a0_5 a0_6 a0_7 a0_8 a0_9 a0_10 a0_11 a1)), 0)) else none) else none) else some (0, 80)
set_option maxRecDepth 100000 in
set_option maxHeartbeats 4000000 in
theorem arrearsref8_Balance.calls (a0_0 : Int) (a0_1 : Int) (a0_2 : Int) (a0_3 : Int) (a0_4 : Int) (a0_5 : Int) (a0_6 : Int) (a0_7 : Int) (a0_8 : Int) (a0_9 : Int) (a0_10 : Int) (a0_11 : Int) (a1 : Int) (r1 r2 : Int) (w : World) (h : arrearsref8_Balance.f a0_0 a0_1 a0_2 a0_3 a0_4 a0_5 a0_6 a0_7 a0_8 a0_9 a0_10 a0_11 a1 = some (r1, r2)) :
    Calls Tryd.prog 13 #[.agg #[.int .i64 a0_0, .int .i64 a0_1, .int .i64 a0_2, .int .i64 a0_3, .int .i64 a0_4, .int .i64 a0_5, .int .i64 a0_6, .int .i64 a0_7, .int .i64 a0_8, .int .i64 a0_9, .int .i64 a0_10, .int .i64 a0_11], .int .i64 a1] w fun e w' => e = .returned (.tuple #[.int .i64 r1, .int .i64 r2]) ∧ Below w.heap.size w w' := by
  have hu1 := Tryd.underlying24
  have hu2 := Tryd.underlying22
  unfold arrearsref8_Balance.f at h
  obtain ⟨t, e0, h⟩ := Option.bind_eq_some_iff.mp h
  have E0 := Aside0.mk e0
  clear e0
  cases t with
  | false =>
    rw [if_neg (by simp)] at h
    have h := Option.some.inj h
    simp only [Prod.mk.injEq] at h
    obtain ⟨rfl, rfl⟩ := h
    go_enter Tryd.func13, Tryd.ntmps13
    go_wp2_with (first | ((with_reducible refine gate_dst (N := 2) rfl ?_); refine box_event ?hg (N := 2) ?hd (cs := #[.int .i64 a0_0, .int .i64 a0_1, .int .i64 a0_2, .int .i64 a0_3, .int .i64 a0_4, .int .i64 a0_5, .int .i64 a0_6, .int .i64 a0_7, .int .i64 a0_8, .int .i64 a0_9, .int .i64 a0_10, .int .i64 a0_11]) (t := 24) ?hr ?_; (case hd => rfl); (case hg => rfl); (case hr => first | (go_simp; done) | (go_simp; rfl)); intro gb hg w1 hbox hb; have BK := Aside0.mk hbox; have HB := Aside0.mk hb; clear hbox hb hg) | (go_at_call 33; refine (arrearsref8_is.calls a1 _ _ E0.out).mono ?_; rintro e w' ⟨rfl, ⟨nd, rfl⟩⟩))
    go_ret2
    exact ⟨rfl, by repeat (with_reducible first | exact HB.out | apply pw_below_drewN | apply below_drew1)⟩
  | true =>
    rw [if_pos rfl] at h
    split at h
    case isFalse => cases h
    split at h
    case isFalse => cases h
    rename_i q0 q1
    obtain ⟨d, e1, h⟩ := Option.bind_eq_some_iff.mp h
    have E1 := Aside0.mk e1
    have h := Option.some.inj h
    have hrow := arrearsref8_Balance.row a0_0 a0_1 a0_2 a0_3 a0_4 a0_5 a0_6 a0_7 a0_8 a0_9 a0_10 a0_11 a1 q0 q1
    have p0 := eq_true q0
    have p1 := eq_true q1
    have p2 := eq_true (show a1.toNat < 12 by omega)
    obtain ⟨x, hx⟩ : ∃ x, x = arrearsref8_Balance.net a0_0 a0_1 a0_2 a0_3 a0_4 a0_5 a0_6 a0_7 a0_8 a0_9 a0_10 a0_11 a1 := ⟨_, rfl⟩
    rw [← hx] at hrow h
    have HR := Aside0.mk hrow
    clear hrow hx q0 q1 e1
    cases d with
    | true =>
      rw [if_pos rfl] at h
      simp only [Prod.mk.injEq] at h
      obtain ⟨rfl, rfl⟩ := h
      go_enter Tryd.func13, Tryd.ntmps13
      go_wp2_with (first | ((with_reducible refine gate_dst (N := 2) rfl ?_); refine box_event ?hg (N := 2) ?hd (cs := #[.int .i64 a0_0, .int .i64 a0_1, .int .i64 a0_2, .int .i64 a0_3, .int .i64 a0_4, .int .i64 a0_5, .int .i64 a0_6, .int .i64 a0_7, .int .i64 a0_8, .int .i64 a0_9, .int .i64 a0_10, .int .i64 a0_11]) (t := 24) ?hr ?_; (case hd => rfl); (case hg => rfl); (case hr => first | (go_simp; done) | (go_simp; rfl)); intro gb hg w1 hbox hb; have BK := Aside0.mk hbox; have HB := Aside0.mk hb; have bx : w1.cell? ⟨gb, a1.toNat, none⟩ = some (.int .i64 x) := (blk_cell BK.out a1.toNat).trans HR.out; clear hbox hb hg) | (go_at_call 33; refine (arrearsref8_is.calls a1 _ _ E0.out).mono ?_; rintro e w' ⟨rfl, ⟨nd, rfl⟩⟩) | (go_at_call 15; refine (arrearsref8_Debits.calls a1 _ _ E1.out).mono ?_; rintro e w' ⟨rfl, ⟨nd2, rfl⟩⟩))
      go_ret2
      exact ⟨rfl, by repeat (with_reducible first | exact HB.out | apply pw_below_drewN | apply below_drew1)⟩
    | false =>
      rw [if_neg (by simp)] at h
      by_cases c3 : x = -9223372036854775808
      · rw [if_pos c3] at h
        simp only [Prod.mk.injEq] at h
        obtain ⟨rfl, rfl⟩ := h
        have d3 : (x == -9223372036854775808) = true := beq_iff_eq.mpr c3
        clear c3
        go_enter Tryd.func13, Tryd.ntmps13
        go_wp2_with (first | ((with_reducible refine gate_dst (N := 2) rfl ?_); refine box_event ?hg (N := 2) ?hd (cs := #[.int .i64 a0_0, .int .i64 a0_1, .int .i64 a0_2, .int .i64 a0_3, .int .i64 a0_4, .int .i64 a0_5, .int .i64 a0_6, .int .i64 a0_7, .int .i64 a0_8, .int .i64 a0_9, .int .i64 a0_10, .int .i64 a0_11]) (t := 24) ?hr ?_; (case hd => rfl); (case hg => rfl); (case hr => first | (go_simp; done) | (go_simp; rfl)); intro gb hg w1 hbox hb; have BK := Aside0.mk hbox; have HB := Aside0.mk hb; have bx : w1.cell? ⟨gb, a1.toNat, none⟩ = some (.int .i64 x) := (blk_cell BK.out a1.toNat).trans HR.out; clear hbox hb hg) | (go_at_call 33; refine (arrearsref8_is.calls a1 _ _ E0.out).mono ?_; rintro e w' ⟨rfl, ⟨nd, rfl⟩⟩) | (go_at_call 15; refine (arrearsref8_Debits.calls a1 _ _ E1.out).mono ?_; rintro e w' ⟨rfl, ⟨nd2, rfl⟩⟩))
        go_ret2
        exact ⟨rfl, by repeat (with_reducible first | exact HB.out | apply pw_below_drewN | apply below_drew1)⟩
      · rw [if_neg c3] at h
        simp only [Prod.mk.injEq] at h
        obtain ⟨rfl, rfl⟩ := h
        have d3 : (x == -9223372036854775808) = false := beq_eq_false_iff_ne.mpr c3
        clear c3
        go_enter Tryd.func13, Tryd.ntmps13
        go_wp2_with (first | ((with_reducible refine gate_dst (N := 2) rfl ?_); refine box_event ?hg (N := 2) ?hd (cs := #[.int .i64 a0_0, .int .i64 a0_1, .int .i64 a0_2, .int .i64 a0_3, .int .i64 a0_4, .int .i64 a0_5, .int .i64 a0_6, .int .i64 a0_7, .int .i64 a0_8, .int .i64 a0_9, .int .i64 a0_10, .int .i64 a0_11]) (t := 24) ?hr ?_; (case hd => rfl); (case hg => rfl); (case hr => first | (go_simp; done) | (go_simp; rfl)); intro gb hg w1 hbox hb; have BK := Aside0.mk hbox; have HB := Aside0.mk hb; have bx : w1.cell? ⟨gb, a1.toNat, none⟩ = some (.int .i64 x) := (blk_cell BK.out a1.toNat).trans HR.out; clear hbox hb hg) | (go_at_call 33; refine (arrearsref8_is.calls a1 _ _ E0.out).mono ?_; rintro e w' ⟨rfl, ⟨nd, rfl⟩⟩) | (go_at_call 15; refine (arrearsref8_Debits.calls a1 _ _ E1.out).mono ?_; rintro e w' ⟨rfl, ⟨nd2, rfl⟩⟩))
        go_ret2
        exact ⟨rfl, by repeat (with_reducible first | exact HB.out | apply pw_below_drewN | apply below_drew1)⟩

/-! ### ledger_Debits: function 14 (by hand) -/
def ledger_Debits.side (o : Int) : Int := ([1, 1, 1, 1, -1, -1, -1, -1, -1, 1, -1, 1] : List Int).getD o.toNat 0
theorem ledger_Debits.twelve {o : Int} (h0 : 0 ≤ o) (h1 : o < 12) : o = 0 ∨ o = 1 ∨ o = 2 ∨ o = 3 ∨ o = 4 ∨ o = 5 ∨ o = 6 ∨ o = 7 ∨ o = 8 ∨ o = 9 ∨ o = 10 ∨ o = 11 := by omega
theorem ledger_Debits.cells (w : World) (hL : Laid w) (o : Int) (h0 : 0 ≤ o) (h1 : o < 12) : w.cell? ⟨0, o.toNat, none⟩ = some (.int .i64 (ledger_Debits.side o)) := by
  apply hL.at0
  rcases ledger_Debits.twelve h0 h1 with rfl | rfl | rfl | rfl | rfl | rfl | rfl | rfl | rfl | rfl | rfl | rfl <;> rfl
def ledger_Debits.f (a0 : Int) : Option Bool := some (if a0 ≥ 0 then (if a0 < 12 then decide (ledger_Debits.side a0 > 0) else false) else false)
set_option maxRecDepth 100000 in
set_option maxHeartbeats 1000000 in
theorem ledger_Debits.calls (a0 : Int) (r : Bool) (w : World) (hL : Laid w) (h : ledger_Debits.f a0 = some r) :
    Calls Tryd.prog 14 #[.int .i64 a0] w fun e w' => e = .returned (.bool r) ∧ Drawn0 w w' := by
  have HL := Aside0.mk hL
  have hu3 := Tryd.underlying63
  unfold ledger_Debits.f at h
  have h := Option.some.inj h
  clear hL
  by_cases c0 : a0 ≥ 0
  · rw [if_pos c0] at h
    have d0 : decide (0 ≤ a0) = true := decide_eq_true c0
    by_cases c1 : a0 < 12
    · rw [if_pos c1] at h
      have d1 : decide (a0 < 12) = true := decide_eq_true c1
      have t0 := ledger_Debits.cells w HL.out a0 c0 c1
      have p0 := eq_true (show 0 ≤ a0 by omega)
      have p1 := eq_true (show a0 < 12 by omega)
      have p2 := eq_true (show a0.toNat < 12 by omega)
      subst h
      obtain ⟨s, hs⟩ : ∃ s, s = ledger_Debits.side a0 := ⟨_, rfl⟩
      rw [← hs] at t0 ⊢
      clear hs c0 c1
      go_enter Tryd.func14, Tryd.ntmps14
      go_wp2
      go_ret
      exact ⟨by first | rfl | simp, by repeat (first | exact Drawn0.refl _ | apply Drawn0.step)⟩
    · rw [if_neg c1] at h
      have d1 : decide (a0 < 12) = false := decide_eq_false c1
      subst h
      clear c0 c1
      go_enter Tryd.func14, Tryd.ntmps14
      go_wp2
      go_ret
      exact ⟨rfl, by repeat (first | exact Drawn0.refl _ | apply Drawn0.step)⟩
  · rw [if_neg c0] at h
    have d0 : decide (0 ≤ a0) = false := decide_eq_false c0
    subst h
    clear c0
    go_enter Tryd.func14, Tryd.ntmps14
    go_wp2
    go_ret
    exact ⟨rfl, by repeat (first | exact Drawn0.refl _ | apply Drawn0.step)⟩

end Go.Proofs.YtmppfpdaglkhkaaDoor.B
