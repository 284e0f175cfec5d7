/- hold: the walk. No condition but the number of answers. -/
import Derived.Test.YticokogggepfoaaMA
namespace Go.Proofs.Yticokogggepfoaa.D
open Go.RowKit Go.Proofs.YticokogggepfoaaW.PrintWords Go.Proofs.YticokogggepfoaaW.PrintLast Go.Proofs.YticokogggepfoaaW.PrintMore Go.Proofs.Yticokogggepfoaa.G
attribute [local go_sem] max2_int min2_int max_two min_two max_three min_three max_four min_four
set_option linter.unusedVariables false
set_option linter.unusedSimpArgs false
set_option maxRecDepth 100000
/-- What hold leaves. -/
def HPost (w : World) (base : Nat) (oA oB z : Nat → Prop) (xs : List (Nat × Int)) (e : Ending) (w' : World) : Prop :=
  ∃ v' xs' oA' z', e = .returned v' ∧ HA w' base oA' z' v' xs' ∧ Upd w w' (fun k => oA k ∨ oB k) ∧ (∀ k, oA' k → oA k ∨ w.heap.size ≤ k) ∧ (∀ k, z' k → z k ∨ oB k ∨ w.heap.size ≤ k) ∧ (∀ k, oA' k → ¬ z' k) ∧ (∀ k, oA' k → k < w'.heap.size) ∧ (∀ k, z' k → k < w'.heap.size) ∧ xs'.length ≤ xs.length + 1
theorem info90 : (Try.prog.info? 90).map (fun i => (i.zero, i.size, i.bytes)) = some (some (.agg #[.slice none 0 0, .slice none 0 0, .int .u8 0]), 3, 56) := by kernel_rfl
theorem Mk.upd' {w w' : World} {v : Value} {n base j : Nat} {o S : Nat → Prop} {mk : Int} (h : Mk w v n base o j mk) (hu : Upd w w' S) (hS : ∀ k, o k → k < w.heap.size → ¬ S k) : Mk w' v n base o j mk := by
  rcases h with h | ⟨g, cap, cur, e, h1, h2, h3, h4⟩
  · exact .inl h
  · exact .inr ⟨g, cap, cur, e, h1, h2, (hu.block g (blk_lt h3) (hS g h2 (blk_lt h3))).trans h3, h4⟩
theorem Mk.own {w : World} {v : Value} {n base j : Nat} {o : Nat → Prop} {mk : Int} (h : Mk w v n base o j mk) : Mk w v n base (fun k => base ≤ k) j mk := by
  rcases h with h | ⟨g, cap, cur, e, h1, h2, h3⟩
  · exact .inl h
  · exact .inr ⟨g, cap, cur, e, h1, h1, h3⟩
theorem f_bd {α : Type} {d : Kd α} {W : World} {ok ok' : Nat → Prop} {A : Option Addr} {n : Nat} {xs : List α} (h : Kd.F d W ok A n xs) (hok : ∀ k, ok k → k < W.heap.size → ok' k) : Kd.F d W ok' A n xs :=
  fun W2 h2 => h W2 (fun k hk hlt => h2 k (hok k hk hlt) hlt)
/-- The row of kept answers, one more. -/
theorem ha_snoc {W w1 : World} {base n c0 c1 : Nat} {oA' z z' S : Nat → Prop} {v1 : Value} {xs : List (Nat × Int)} {rows : List (List Value)} {A0 A1 : Option Addr} {mk : Int}
    (hlen : xs.length + 1 ≤ 140737488355328) (hbd : ∀ x ∈ xs, x.1 ≤ 4096) (hn : n ≤ 4096) (e : rows.length = xs.length)
    (hx : ∀ (i : Nat) (x : Nat × Int), xs[i]? = some x → ∃ (A0 : Option Addr) (c0 : Nat) (A1 : Option Addr) (c1 : Nat), rows[i]? = some ([.slice A0 x.1 c0, .slice A1 (x.1 + 64) c1, .int .u8 x.2] : List Value) ∧ x.1 ≤ c0 ∧ x.1 + 64 ≤ c1 ∧ Kd.F By W z A0 x.1 (List.replicate x.1 x.2) ∧ Kd.F By W z A1 (x.1 + 64) (List.replicate (x.1 + 64) x.2))
    (hr1 : Kd.R (Kd.raw 3) 90 w1 base oA' v1 (rows ++ [([.slice A0 n c0, .slice A1 (n + 64) c1, .int .u8 mk] : List Value)])) (hu : Upd W w1 S) (hz : ∀ k, z k → k < W.heap.size → ¬ S k)
    (g2 : n ≤ c0) (g3 : n + 64 ≤ c1) (F0 : Kd.F By w1 z' A0 n (List.replicate n mk)) (F1 : Kd.F By w1 z' A1 (n + 64) (List.replicate (n + 64) mk)) (hzz : ∀ k, z k → z' k) : HA w1 base oA' z' v1 (xs ++ [(n, mk)]) := by
  refine ⟨by simp; omega, fun x hx => ?_, _, by simp [e], hr1, fun i x hi => ?_⟩
  · rcases List.mem_append.1 hx with h | h
    · exact hbd x h
    · simp at h; subst h; exact hn
  · by_cases hlt : i < xs.length
    · rw [List.getElem?_append_left hlt] at hi
      obtain ⟨B0, d0, B1, d1, q1, q2, q3, q4, q5⟩ := hx i x hi
      exact ⟨B0, d0, B1, d1, by rw [List.getElem?_append_left (by omega)]; exact q1, q2, q3, f_mono (f_upd q4 hu hz) hzz, f_mono (f_upd q5 hu hz) hzz⟩
    · rw [List.getElem?_append_right (by omega)] at hi
      obtain ⟨h0, rfl⟩ : i - xs.length = 0 ∧ x = (n, mk) := by
        cases hc : i - xs.length with
        | zero => rw [hc] at hi; simp at hi; exact ⟨rfl, hi.symm⟩
        | succ q => rw [hc] at hi; simp at hi
      exact ⟨A0, c0, A1, c1, by rw [List.getElem?_append_right (by omega), e, h0]; rfl, g2, g3, F0, F1⟩
section
variable {w : World} {base : Nat} {oA oB z : Nat → Prop} {v vb : Value} {xs : List (Nat × Int)} {lb : List Int}
theorem hold_long (hA : HA w base oA z v xs) (hR : Kd.R By 5 w base oB vb lb) (hz : ∀ k, oA k → ¬ z k) (hzl : ∀ k, z k → k < w.heap.size) (hal : ∀ k, oA k → k < w.heap.size) (hl : 4096 < lb.length) :
    Calls Try.prog 49 #[v, vb] w (HPost w base oA oB z xs) := by
  obtain ⟨A, c, rfl, hc, _⟩ := hA.slice
  obtain ⟨A2, c2, rfl, hc2⟩ := Kd.R_slice_len hR
  have HH := Aside0.mk hA
  have HZ := Aside0.mk hz
  have d1 : decide ((4096 : Int) < (lb.length : Int)) = true := decide_eq_true (by omega)
  clear hA hR hz hl
  go_enter Try.func49, Try.ntmps49
  go_wp2
  go_ret
  exact ⟨_, xs, oA, z, rfl, HH.out, Upd.refl _ _, fun k hk => .inl hk, fun k hk => .inl hk, HZ.out, hal, hzl, by omega⟩
set_option maxHeartbeats 2000000 in
theorem hold_short (hA : HA w base oA z v xs) (hR : Kd.R By 5 w base oB vb lb) (hz : ∀ k, oA k → ¬ z k) (hab : ∀ k, oB k → ¬ oA k ∧ ¬ z k) (hzl : ∀ k, z k → k < w.heap.size) (hbl : ∀ k, oB k → k < w.heap.size) (hal : ∀ k, oA k → k < w.heap.size) (hbw : base ≤ w.heap.size) (hx : xs.length ≤ 2400000000000) (hl : lb.length ≤ 4096) :
    Calls Try.prog 49 #[v, vb] w (HPost w base oA oB z xs) := by
  obtain ⟨A, c, rfl, hc, _⟩ := hA.slice
  obtain ⟨A2, c2, rfl, hc2⟩ := Kd.R_slice_len hR
  have HH := Aside0.mk hA
  have HZ := Aside0.mk hz
  have HM := Aside0.mk (fun mk => mk_row hR mk)
  have HAB := Aside0.mk hab
  have HBL := Aside0.mk hbl
  have hl'2 : lb.length ≤ 4096 := hl
  have HAL := Aside0.mk hal
  have HZL := Aside0.mk hzl
  clear hbl hal hzl
  have d1 : decide ((4096 : Int) < (lb.length : Int)) = false := decide_eq_false (by omega)
  have HXL := Aside0.mk hx
  have hl' : (lb.length : Int) ≤ 4096 := by omega
  clear hA hR hz hab hl hx
  go_enter Try.func49, Try.ntmps49
  go_upto_region 3 with fail
  go_cut [5] (fun v5 wx => (∃ mk : Int, v5 = .int .u8 mk) ∧ w = wx)
  case first =>
    go_wp2
    go_meet
    exact ⟨⟨_, rfl⟩, rfl⟩
  case rest =>
    obtain ⟨⟨mk, rfl⟩, rfl⟩ := hcut
    have HMK := Aside0.mk (HM.out mk)
    clear HM
    go_wp2_with fail
    go_loopw [6] (fun i wr => ∃ j : Nat, j ≤ lb.length ∧ i = .int .i64 (j : Int) ∧ Aside0 (Mk wr (.slice A2 lb.length c2) lb.length base oB j mk) ∧ Aside0 (Upd w wr oB)) (fun i _ => lb.length - (intOf i).toNat)
    case atStart => exact ⟨0, by omega, rfl, HMK, ⟨Upd.refl _ _⟩⟩
    case round =>
      obtain ⟨j, hj, rfl, HJ, HU⟩ := hrel
      by_cases hjn : j < lb.length
      · obtain ⟨g, u, rfl, ea, hob, hB, hcell, hfz, hty, hnx⟩ := mk_at HJ.out hjn
        have HO := Aside0.mk hob
        have HN := Aside0.mk hnx
        clear hob hB hnx hty
        go_wp2_with fail
        go_roundw
        case rel => exact ⟨j + 1, by omega, by go_num, HN, ⟨HU.out.setCell (p := ⟨g, j, none⟩) (fun _ => HO.out) _⟩⟩
        case measure => simp [intOf]; omega
      · obtain rfl : j = lb.length := by omega
        obtain ⟨wa, hwa⟩ : ∃ wa, wa = wr := ⟨_, rfl⟩
        subst hwa
        obtain ⟨tl, htl⟩ : ∃ tl : Nat, tl = 64 := ⟨_, rfl⟩
        have HTL := Aside0.mk htl
        clear htl
        go_wp2_with (first | ((with_reducible refine gate_dst (N := 28) rfl ?_); refine Kd.R_make By (w0 := wa) wa.heap.size 5 rfl (N := 28) rfl 28 _ _ rfl (64 : Int) rfl rfl Try.underlying28 (.int .u8 0) 1 G.info5 rfl (by decide) (by decide) 0 (ok := fun _ => True) (okp := fun _ => True) rfl (fun _ hk => hk) trivial (by decide) (by decide) (Below.refl _ _) (Nat.le_refl _) ?_; intro v1 w1 ho1 hb1 hg1 hn1; rw [show List.replicate (64 : Int).toNat (0 : Int) = List.replicate tl 0 by rw [HTL.out]; rfl] at ho1; obtain ⟨A3, c3, rfl, hc3⟩ := Kd.R_slice_len ho1; have HO1 := Aside0.mk ho1; have HB1 := Aside0.mk hb1; clear ho1 hb1 hg1 hn1 hc3) | fail)
        have HT0 := Aside0.mk (by have hh := (mk_row HO1.out mk).own; rwa [show (List.replicate tl (0 : Int)).length = tl by simp] at hh : Mk w1 (.slice A3 tl c3) tl wa.heap.size (fun k => wa.heap.size ≤ k) 0 mk)
        go_loopw [8] (fun i wq => ∃ j : Nat, j ≤ tl ∧ i = .int .i64 (j : Int) ∧ Aside0 (Mk wq (.slice A3 tl c3) tl wa.heap.size (fun k => wa.heap.size ≤ k) j mk) ∧ Aside0 (Upd wa wq (fun k => wa.heap.size ≤ k))) (fun i _ => tl - (intOf i).toNat)
        case atStart => exact ⟨0, by omega, rfl, HT0, ⟨Upd.of_below HB1.out _⟩⟩
        case round =>
          obtain ⟨j, hj, rfl, HJ2, HU2⟩ := hrel
          have hl64 : (tl : Int) ≤ 64 := by rw [HTL.out]; omega
          by_cases hjn2 : j < tl
          · obtain ⟨g, u, rfl, ea, hob, hB, hcell, hfz, hty, hnx⟩ := mk_at HJ2.out hjn2
            have HO := Aside0.mk hob
            have HN := Aside0.mk hnx
            clear hob hB hnx hty
            go_wp2_with fail
            go_roundw
            case rel => exact ⟨j + 1, by omega, by go_num, HN, ⟨HU2.out.setCell (p := ⟨g, j, none⟩) (fun _ => HO.out) _⟩⟩
            case measure => simp [intOf]; omega
          · obtain rfl : j = tl := by omega
            have HM2 := Aside0.mk (HJ.out.upd' HU2.out (fun k _ h1 h2 => by omega))
            obtain ⟨rows, er, hrows, hxr⟩ := HH.out.row
            have HRW := Aside0.mk hrows
            have HXR := Aside0.mk hxr
            clear hrows hxr
            have HNM := Aside0.mk (show wa.heap.size ≤ wr.heap.size from HU2.out.size)
            have HNW := Aside0.mk (show w.heap.size ≤ wa.heap.size from HU.out.size)
            have HUQ := Aside0.mk (show Upd w wr oB from HU.out.then_ HU2.out (fun k hk h2 => by have := HNW.out; omega))
            go_wp2_with (first | ((refine gate_builtin (b := .append) (xs := #[.tmp 41, .tmp 42]) rfl ?_); at_builtin; refine append_tail rfl (.tmp 41) (.tmp 42) rfl rfl rfl HM2.out HJ2.out (by have := HNW.out; intro k hk h2; have := HBL.out k hk; omega) hl'2 HTL.out ?_; intro A' c' w' hc' hF hM' hU'; have HF := Aside0.mk hF; have HM3 := Aside0.mk hM'; have HUW := Aside0.mk (HUQ.out.then_ hU' (fun k _ h2 => h2)); have HC' := Aside0.mk hc'; have HRW2 := Aside0.mk (Kd.R_mono (ok' := fun k => oA k ∨ w'.heap.size ≤ k) (Kd.R_step HRW.out (fun k hk hlt => HUW.out.block k hlt (fun h2 => (HAB.out k h2).1 hk))) (fun k hk => Or.inl hk)); have HBW := Aside0.mk (show base ≤ w'.heap.size from Nat.le_trans hbw HUW.out.size); clear hF hM' hU' hc') | ((refine gate_builtin (b := .append) (xs := #[.tmp 39, .tmp 46]) rfl ?_); at_builtin; refine Kd.R_append (Kd.raw 3) (w0 := w') base rfl (.tmp 39) (.tmp 46) 72 90 (.agg #[.slice none 0 0, .slice none 0 0, .int .u8 0]) 56 rfl Try.underlying72 info90 rfl (by decide) (by decide) (.slice A xs.length c) rows [.slice A2 lb.length c2, .slice A' (lb.length + 64) c', .int .u8 mk] [.slice A2 lb.length c2, .slice A' (lb.length + 64) c', .int .u8 mk] (fun k => oA k ∨ w'.heap.size ≤ k) (fun _ => False) rfl rfl ⟨rfl, rfl, fun u hu => by simp at hu; rcases hu with rfl | rfl | rfl <;> rfl⟩ (fun _ hk => hk.elim) (fun _ hk => .inr hk) HRW2.out (Below.refl _ _) HBW.out (by rw [er]; have := HXL.out; omega) ?_; intro v5 w5 hr5 hb5 hg5 hat5; obtain ⟨A5, c5, rfl, hc5⟩ := Kd.R_slice_len hr5; have HR5 := Aside0.mk hr5; have HG5 := Aside0.mk hg5; clear hr5 hb5 hg5 hat5) | fail)
            go_ret
            have hS : Upd w w5 (fun k => oA k ∨ oB k) := (HUW.out.mono (S' := fun k => oA k ∨ oB k) (fun k _ h => .inr h)).grown HG5.out (fun k hk _ => .inl (HRW.out.1 k hk))
            have hgu : Upd w' w5 oA := (Upd.refl w' oA).grown HG5.out (fun k hk _ => HRW.out.1 k hk)
            have hsz := HUW.out.size
            have hs5 := hgu.size
            have hr6 := Kd.R_mono (ok' := fun k => oA k ∨ (w'.heap.size ≤ k ∧ k < w5.heap.size)) (Kd.R_bound HR5.out) (fun k hk => hk.1.elim .inl (fun h => .inr ⟨h, hk.2.2.1⟩))
            rw [show (rows ++ [([.slice A2 lb.length c2, .slice A' (lb.length + 64) c', .int .u8 mk] : List Value)]).length = xs.length + 1 by simp [er]] at hr6
            have hq := HM3.out.reads
            have hlen := HH.out.len
            refine ⟨_, xs ++ [(lb.length, mk)], fun k => oA k ∨ (w'.heap.size ≤ k ∧ k < w5.heap.size), fun k => z k ∨ oB k ∨ (w.heap.size ≤ k ∧ k < w'.heap.size), rfl, ha_snoc (by have := HXL.out; omega) HH.out.bd hl'2 er HXR.out hr6 hS (fun k hk _ h2 => h2.elim (fun h => HZ.out k h hk) (fun h => (HAB.out k h).2 hk)) hq.2 HC'.out
              (f_mono (f_upd hq.1 hgu (fun k hk _ h2 => (HAB.out k hk).1 h2)) (fun k hk => .inr (.inl hk)))
              (f_mono (f_upd (f_bd (ok' := fun k => oB k ∨ (w.heap.size ≤ k ∧ k < w'.heap.size)) HF.out (fun k hk hlt => hk.elim .inl (fun h => .inr ⟨by have := HNM.out; have := HNW.out; omega, hlt⟩))) hgu (fun k hk _ h2 => hk.elim (fun h => (HAB.out k h).1 h2) (fun h => by have := HAL.out k h2; omega))) (fun k hk => .inr hk))
              (fun k hk => .inl hk), hS, fun k hk => hk.elim .inl (fun h => .inr (by have := h.1; omega)), fun k hk => hk.elim .inl (fun h => h.elim (fun h => .inr (.inl h)) (fun h => .inr (.inr h.1))), ?_, ?_, ?_, by simp⟩
            · rintro k (h | h) h2
              · rcases h2 with h3 | h3 | h3
                · exact HZ.out k h h3
                · exact (HAB.out k h3).1 h
                · have := HAL.out k h; omega
              · rcases h2 with h3 | h3 | h3
                · have := HZL.out k h3; omega
                · have := HBL.out k h3; omega
                · omega
            · rintro k (h | h)
              · have := HAL.out k h; omega
              · exact h.2
            · rintro k (h | h | h)
              · have := HZL.out k h; omega
              · have := HBL.out k h; omega
              · omega
theorem hold_calls (hA : HA w base oA z v xs) (hR : Kd.R By 5 w base oB vb lb) (hz : ∀ k, oA k → ¬ z k) (hab : ∀ k, oB k → ¬ oA k ∧ ¬ z k) (hzl : ∀ k, z k → k < w.heap.size) (hbl : ∀ k, oB k → k < w.heap.size) (hal : ∀ k, oA k → k < w.heap.size) (hbw : base ≤ w.heap.size) (hx : xs.length ≤ 2400000000000) :
    Calls Try.prog 49 #[v, vb] w (HPost w base oA oB z xs) := by
  by_cases h : 4096 < lb.length
  · exact hold_long hA hR hz hzl hal h
  · exact hold_short hA hR hz hab hzl hbl hal hbw hx (by omega)
end
end Go.Proofs.Yticokogggepfoaa.D
