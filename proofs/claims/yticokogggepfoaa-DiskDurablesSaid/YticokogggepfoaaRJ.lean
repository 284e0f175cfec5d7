/- The document's disk: Arm. No condition but what it reads as. -/
import Derived.Test.YticokogggepfoaaRI
import Derived.Deep.DrawnRows
namespace Go.Proofs.Yticokogggepfoaa.D
open Go.RowKit Go.Proofs.YticokogggepfoaaW.PrintWords Go.Proofs.YticokogggepfoaaW.PrintLast Go.Proofs.YticokogggepfoaaW.PrintMore Go.Proofs.Yticokogggepfoaa.G
attribute [local go_sem] max2_int min2_int max_two min_two max_three min_three max_four min_four
set_option linter.unusedVariables false
set_option linter.unusedSimpArgs false
set_option maxRecDepth 100000
attribute [local go_sem ↓] Go.wp_at_zero Go.wp_at_succ
variable {W : World} {ok : Nat → Prop} {s : RS} {m : RM}
theorem lt_or (m : RM) (h : m.ok) : m.ar.length ≤ 64 := h.la
set_option maxHeartbeats 4000000 in
theorem rarm_calls (h : RRep W ok s m) (hm : m.ok) (a k : Int) : Calls Try.prog 53 #[.agg (RC s m), .int .i64 a, .int .i64 k] W (RPost W ok (m.arm a k)) := by
  have HT := Aside0.mk (St.new h)
  have HM := Aside0.mk hm
  clear h hm
  by_cases hb : badA a k
  · have HE := Aside0.mk (show m.arm a k = (m, 2) by unfold RM.arm; rw [if_pos hb])
    have hcases : decide (a < 1) = true ∨ (decide (a < 1) = false ∧ decide (1000000 < a) = true) ∨ (decide (a < 1) = false ∧ decide (1000000 < a) = false ∧ decide (k < 0) = true) ∨ (decide (a < 1) = false ∧ decide (1000000 < a) = false ∧ decide (k < 0) = false ∧ decide (16777216 < k) = true) := by
      unfold badA at hb
      simp only [decide_eq_true_eq, decide_eq_false_iff_not]; omega
    clear hb
    rcases hcases with d1 | ⟨d1, d2⟩ | ⟨d1, d2, d3⟩ | ⟨d1, d2, d3, d4⟩
    all_goals
      go_enter Try.func53, Try.ntmps53
      go_upto_region 1 with fail
      refine gen_world (fun w2 => St W w2 ok s m) HT.out ?_
      intro w2 h2
      have HT2 := Aside0.mk h2
      clear h2 HT
      obtain ⟨x0, x1, x2, x3, x4, x5, x6, x7⟩ := rc_cells HT2.out.two.box
      obtain ⟨z0, z1, z2, z3, z4, z5, z6, z7⟩ := out_cells HT2.out.two
      have hfz := blk_frozen HT2.out.two.box
      have hfo := blk_frozen HT2.out.two.out
      go_wp2
      exact bodyPost_ret (ret68t Try.results53 _ _ (W.heap.size + 1) (RC s m) rfl (HT2.out.done HT2.out.rep).1 rfl) rfl (by rw [HE.out]; exact ⟨s, rfl, (HT2.out.done HT2.out.rep).2⟩)
  · have d1 : decide (a < 1) = false := decide_eq_false (by unfold badA at hb; omega)
    have d2 : decide (1000000 < a) = false := decide_eq_false (by unfold badA at hb; omega)
    have d3 : decide (k < 0) = false := decide_eq_false (by unfold badA at hb; omega)
    have d4 : decide (16777216 < k) = false := decide_eq_false (by unfold badA at hb; omega)
    by_cases hl : 64 ≤ m.ar.length
    · have HE := Aside0.mk (show m.arm a k = (m, 1) by unfold RM.arm; rw [if_neg hb, if_pos hl])
      have d5 : decide ((64 : Int) ≤ (m.ar.length : Int)) = true := decide_eq_true (by omega)
      clear hb hl
      go_enter Try.func53, Try.ntmps53
      go_upto_region 1 with fail
      refine gen_world (fun w2 => St W w2 ok s m) HT.out ?_
      intro w2 h2
      have HT2 := Aside0.mk h2
      clear h2 HT
      obtain ⟨x0, x1, x2, x3, x4, x5, x6, x7⟩ := rc_cells HT2.out.two.box
      obtain ⟨z0, z1, z2, z3, z4, z5, z6, z7⟩ := out_cells HT2.out.two
      have hfz := blk_frozen HT2.out.two.box
      have hfo := blk_frozen HT2.out.two.out
      go_wp2
      exact bodyPost_ret (ret68t Try.results53 _ _ (W.heap.size + 1) (RC s m) rfl (HT2.out.done HT2.out.rep).1 rfl) rfl (by rw [HE.out]; exact ⟨s, rfl, (HT2.out.done HT2.out.rep).2⟩)
    · have HE := Aside0.mk (show m.arm a k = ({ m with ar := m.ar ++ [(a, k)] }, 0) by unfold RM.arm; rw [if_neg hb, if_neg hl])
      have d5 : decide ((64 : Int) ≤ (m.ar.length : Int)) = false := decide_eq_false (by omega)
      have HL64 := Aside0.mk (show m.ar.length < 64 by omega)
      clear hb hl
      go_enter Try.func53, Try.ntmps53
      go_upto_region 1 with fail
      refine gen_world (fun w2 => St W w2 ok s m) HT.out ?_
      intro w2 h2
      have HT2 := Aside0.mk h2
      clear h2 HT
      obtain ⟨x0, x1, x2, x3, x4, x5, x6, x7⟩ := rc_cells HT2.out.two.box
      obtain ⟨z0, z1, z2, z3, z4, z5, z6, z7⟩ := out_cells HT2.out.two
      have hfz := blk_frozen HT2.out.two.box
      have hfo := blk_frozen HT2.out.two.out
      clear z0 z1 z2 z3 z4 z5 z6 z7 hfo
      go_upto_region 5 with fail
      refine gen_world (fun w2 => St W w2 ok s m) HT2.out ?_
      intro w5 h5
      have H5 := Aside0.mk h5
      obtain ⟨N0, hN0⟩ : ∃ N0, N0 = w5.heap.size := ⟨_, rfl⟩
      have HN := Aside0.mk (show W.heap.size + 1 < N0 from hN0 ▸ blk_lt h5.two.out)
      have hr5 := h5.rep.bound
      rw [← hN0] at hr5
      have HR5 := Aside0.mk hr5
      have HN5 := Aside0.mk hN0
      clear x0 x1 x2 x3 x4 x5 x6 x7 hfz h5 hN0 hr5 HT2 d1 d2 d3 d4 d5
      go_wp2_with fail
      go_loopw [8, 9] (fun v i wr => ∃ q : Nat, q ≤ m.ar.length ∧ i = .int .i64 (q : Int) ∧ Aside0 (Kd.R Cr 98 wr N0 (fun _ => True) v (m.ar.take q)) ∧ Aside0 (Two W wr s m) ∧ Aside0 (RRep wr (fun k => okb W ok k ∧ k < N0) s m) ∧ Aside0 (N0 ≤ wr.heap.size)) (fun _ i _ => m.ar.length - (intOf i).toNat)
      case atStart =>
        exact ⟨0, by omega, rfl, ⟨Kd.R_nil _ _ _ _ _⟩, ⟨H5.out.two⟩, HR5, ⟨Nat.le_of_eq HN5.out⟩⟩
      case round =>
        obtain ⟨q, hq, rfl, HO, HTW, HRR, HNR⟩ := hrel
        obtain ⟨x0, x1, x2, x3, x4, x5, x6, x7⟩ := rc_cells HTW.out.box
        have hfz := blk_frozen HTW.out.box
        have hC := f_now HRR.out.ar
        obtain ⟨Av, nv, rfl, hnv⟩ := Kd.R_slice_len HO.out
        have hlk : (m.ar.take q).length = q := by rw [List.length_take]; omega
        have HLK := Aside0.mk hlk
        by_cases hkr : q < m.ar.length
        · obtain ⟨ad, he, g1, g2⟩ := cr_at hC q hkr
          rw [he] at x4
          have hu0 := Kd.R_base HO.out
          have HU0 := Aside0.mk hu0
          have HL := Aside0.mk (show (q + 1) * 16 ≤ 140737488355328 by have := HL64.out; omega)
          have HTS := Aside0.mk (List.take_succ_eq_append_getElem hkr)
          have hidx : (q : Int) < (m.ar.length : Int) := by omega
          have hl64 : (m.ar.length : Int) < 64 := by have := HL64.out; omega
          clear hlk hu0 x0 x1 x2 x3 x5 x6 x7 hC he
          go_wp2_with ((refine gate_builtin (b := .append) (xs := #[.tmp 37, .tmp 43]) rfl ?_); at_builtin; refine Kd.R_append Cr (w0 := wr) N0 rfl (.tmp 37) (.tmp 43) 66 98 (.agg #[.int .i64 0, .int .i64 0]) 16 rfl Try.underlying66 info98 rfl (by decide) (by decide) (.slice Av (m.ar.take q).length nv) (m.ar.take q) (m.ar[q].1, m.ar[q].2) [.int .i64 m.ar[q].1, .int .i64 m.ar[q].2] (fun _ => True) (fun _ => False) rfl rfl (cr_M _ _ _ _ _) (fun _ hk => hk.elim) (fun _ _ => trivial) HO.out (Below.refl _ _) HNR.out (by rw [HLK.out]; exact HL.out) ?_; intro u1 w1 hr1 hb1 hg1 hat1; obtain ⟨A2, n2, rfl, hn2⟩ := Kd.R_slice_len hr1; rw [show m.ar.take q ++ [(m.ar[q].1, m.ar[q].2)] = m.ar.take (q + 1) from HTS.out.symm] at hr1; have hup : Upd wr w1 (fun k => N0 ≤ k) := (Upd.refl _ _).grown hg1 (fun j hj _ => HU0.out j hj); have HR1 := Aside0.mk hr1; have HUP := Aside0.mk hup; clear hr1 hb1 hg1 hat1 hn2 hup)
          go_roundw
          case rel =>
            refine ⟨q + 1, by omega, by first | rfl | go_num, ⟨by have h_ := HR1.out; rw [show (m.ar.take (q + 1)).length = q + 1 by rw [List.length_take]; omega] at h_; exact h_⟩, ⟨HTW.out.upd HUP.out (fun j hj => by have := HN.out; omega)⟩, ⟨HRR.out.upd HUP.out (fun j hj _ h2 => by have := hj.2; omega)⟩, ⟨Nat.le_trans HNR.out HUP.out.size⟩⟩
          case measure => simp [intOf]; omega
        · obtain rfl : q = m.ar.length := by omega
          have hr0 := HO.out
          rw [List.take_length] at hr0 hnv ⊢
          have hu0 := Kd.R_base hr0
          have HU0 := Aside0.mk hu0
          have HR0 := Aside0.mk hr0
          have HL := Aside0.mk (show (m.ar.length + 1) * 16 ≤ 140737488355328 by have := HL64.out; omega)
          obtain ⟨z0, z1, z2, z3, z4, z5, z6, z7⟩ := out_cells HTW.out
          have hfo := blk_frozen HTW.out.out
          clear hlk hu0 hC hr0
          obtain ⟨l, hl⟩ : ∃ l, l = m.ar ++ [(a, k)] := ⟨_, rfl⟩
          have HLQ := Aside0.mk hl
          clear hl x0 x1 x2 x3 x4 x5 x6 x7 z0 z1 z2 z3 z4 z5 z6 z7 hfo hfz
          obtain ⟨_, _, _, _, x4, _, _, _⟩ := rc_cells HTW.out.box
          go_wp2_with ((refine gate_builtin (b := .append) (xs := #[.tmp 45, .tmp 49]) rfl ?_); at_builtin; refine Kd.R_append Cr (w0 := wr) N0 rfl (.tmp 45) (.tmp 49) 66 98 (.agg #[.int .i64 0, .int .i64 0]) 16 rfl Try.underlying66 info98 rfl (by decide) (by decide) (.slice Av m.ar.length nv) m.ar (a, k) [.int .i64 a, .int .i64 k] (fun _ => True) (fun _ => False) rfl rfl (cr_M _ _ _ _ _) (fun _ hk => hk.elim) (fun _ _ => trivial) HR0.out (Below.refl _ _) HNR.out HL.out ?_; intro u1 w1 hr1 hb1 hg1 hat1; rw [← HLQ.out] at hr1; obtain ⟨A2, n2, rfl, hn2⟩ := Kd.R_slice_len hr1; have hup : Upd wr w1 (fun k => N0 ≤ k) := (Upd.refl _ _).grown hg1 (fun j hj _ => HU0.out j hj); have HR1 := Aside0.mk hr1; have HN2 := Aside0.mk hn2; have HUP := Aside0.mk hup; have HT2 := Aside0.mk (show St W w1 ok s m from ⟨HTW.out.upd hup (fun j hj => by have := HN.out; omega), (HRR.out.upd hup (fun j hj _ h2 => by have := hj.2; omega)).mono (fun j hj => hj.1)⟩); clear hr1 hb1 hg1 hat1 hn2 hup x4; (obtain ⟨x0, x1, x2, x3, x4, x5, x6, x7⟩ := rc_cells HT2.out.two.box); (obtain ⟨z0, z1, z2, z3, z4, z5, z6, z7⟩ := out_cells HT2.out.two); have hfz := blk_frozen HT2.out.two.box; have hfo := blk_frozen HT2.out.two.out)
          have hAr : Kd.F Cr w1 (okb W ok) A2 l.length l := Kd.F_mono (f_of_R HR1.out) (fun j hj => ⟨.inr (by have := hj.2.1; have := HN.out; omega), by have := hj.2.1; have := HN.out; omega, by have := hj.2.1; have := HN.out; omega⟩)
          have hfin := HT2.out.setAr HN2.out hAr
          exact bodyPost_ret (ret68t Try.results53 _ _ (W.heap.size + 1) (RC { s with Ar := A2, Arc := n2 } { m with ar := l }) rfl (hfin.done hfin.rep).1 rfl) rfl (by rw [HE.out, ← HLQ.out]; exact ⟨_, rfl, (hfin.done hfin.rep).2⟩)
end Go.Proofs.Yticokogggepfoaa.D
