/- UpTo: the walk. No condition but the lists' bulk. -/
import Derived.Test.YticokogggepfoaaMD
import Derived.Deep.CutBlock
namespace Go.Proofs.Yticokogggepfoaa.D
open Go.RowKit Go.Proofs.YticokogggepfoaaW.PrintWords Go.Proofs.YticokogggepfoaaW.PrintLast Go.Proofs.YticokogggepfoaaW.PrintMore Go.Proofs.Yticokogggepfoaa.G
attribute [local go_sem] max2_int min2_int max_two min_two max_three min_three max_four min_four
set_option linter.unusedVariables false
set_option linter.unusedSimpArgs false
set_option maxRecDepth 100000
set_option maxHeartbeats 8000000 in
theorem upto_calls (W : World) (A0 A1 A2 : Option Addr) (c0 c1 c2 : Nat) (l0 l1 : List Int) (ms : List OM) (lo hi : Int) (h0 : Kd.C By W A0 l0.length l0) (h0c : l0.length ≤ c0) (h0l : l0.length < 140737488355328) (h1 : Kd.C By W A1 l1.length l1) (h1c : l1.length ≤ c1) (h1l : l1.length < 140737488355328)
    (h2 : Kd.C OpK W A2 ms.length ms) (h2l : ms.length ≤ 2300000000000) (h2m : ∀ m ∈ ms, m.data.length < 140737488355000) :
    Calls Try.prog 24 #[.slice A0 l0.length c0, .slice A1 l1.length c1, .slice A2 ms.length c2, .int .i64 lo, .int .i64 hi] W fun e W' => e = .returned (.bool true) ∧ Below W.heap.size W W' := by
  have H0 := Aside0.mk h0
  have H1 := Aside0.mk h1
  have H2 := Aside0.mk h2
  have HM2 := Aside0.mk h2m
  have HL0 := Aside0.mk h0l
  have HL1 := Aside0.mk h1l
  clear h0 h1 h2 h2m h0l h1l
  go_enter Try.func24, Try.ntmps24
  go_wp2_with fail
  refine (lcopied_calls H0.out h0c HL0.out).mono ?_
  rintro e w1 ⟨v, rfl, hf⟩
  obtain ⟨B0, b0, rfl, hb0⟩ := Kd.R_slice_len hf.1
  have F1 := Aside0.mk hf
  clear hf
  go_wp2_with fail
  refine (lcopied_calls (Kd.C_below H1.out F1.out.2) h1c HL1.out).mono ?_
  rintro e w2 ⟨v, rfl, hf⟩
  obtain ⟨B1, b1, rfl, hb1⟩ := Kd.R_slice_len hf.1
  have F2 := Aside0.mk hf
  clear hf
  have HB0 := Aside0.mk hb0
  have HB1 := Aside0.mk hb1
  have HW2 := Aside0.mk (show Below W.heap.size W w2 from F1.out.2.trans (F2.out.2.mono F1.out.2.size))
  go_wp2_with fail
  refine (load_calls w2 B0 b0 l0 B1 b1 l1 (Kd.C_below F1.out.reads F2.out.2) hb0 F2.out.reads hb1).mono ?_
  rintro e w3 ⟨rfl, hr, hb⟩
  have HR3 := Aside0.mk hr
  have HB3 := Aside0.mk hb
  have HW3 := Aside0.mk (show Below W.heap.size W w3 from HW2.out.trans (hb.mono HW2.out.size))
  clear hr hb
  go_wp2_with fail
  refine (rload_calls (Kd.C_below H0.out HW3.out) h0c (Nat.le_of_lt HL0.out) (Kd.C_below H1.out HW3.out) h1c (Nat.le_of_lt HL1.out)).mono ?_
  rintro e w4 ⟨s1, rfl, hr4, hb4⟩
  have HR4 := Aside0.mk hr4
  have HB4 := Aside0.mk hb4
  clear hr4 hb4
  go_upto_region 4 with fail
  refine gen_world (fun w5 => (Below w4.heap.size w4 w5 ∧ w5.heap[w4.heap.size]? = some (.cells (PV w2.heap.size s1 (RM.load l0 l1)) 71 (0, 0))) ∧ w5.heap.size = w4.heap.size + 1) ⟨⟨below_alloc (Below.refl _ _) _, heap_alloc_new _ _⟩, by simp⟩ ?_
  rintro w5 ⟨⟨b5, x5⟩, z5⟩
  have HB5 := Aside0.mk b5
  have HX5 := Aside0.mk x5
  have HZ5 := Aside0.mk z5
  clear b5 x5 z5
  go_wp2_with fail
  refine (new_calls (B := W.heap.size) w5 (Nat.le_trans HW3.out.size (Nat.le_trans HB4.out.size HB5.out.size))).mono ?_
  rintro e w6 ⟨rfl, hr6, hb6⟩
  have HR6 := Aside0.mk hr6
  have HB6 := Aside0.mk hb6
  clear hr6 hb6
  go_wp2_with fail
  refine (rload_calls (l := []) (r := []) (Kd.C_nil _ _) (Nat.le_refl 0) (Nat.zero_le _) (Kd.C_nil _ _) (Nat.le_refl 0) (Nat.zero_le _)).mono ?_
  rintro e w7 ⟨s2, rfl, hr7, hb7⟩
  have HR7 := Aside0.mk hr7
  have HB7 := Aside0.mk hb7
  clear hr7 hb7
  go_upto_region 5 with fail
  refine gen_world (fun w8 => (Below w7.heap.size w7 w8 ∧ w8.heap[w7.heap.size]? = some (.cells (PV w5.heap.size s2 (RM.load [] [])) 71 (0, 0))) ∧ w8.heap.size = w7.heap.size + 1) ⟨⟨below_alloc (Below.refl _ _) _, heap_alloc_new _ _⟩, by simp⟩ ?_
  rintro w8 ⟨⟨b8, x8⟩, z8⟩
  obtain ⟨own, hus, ho1, ho2, ho3⟩ := us_start HW2.out HR3.out HB3.out HR4.out HB4.out HB5.out HZ5.out HR6.out HB6.out HR7.out HB7.out b8 z8
  have HU : Aside0 (UB W w8 (two w4.heap.size w7.heap.size) own (two w2.heap.size w5.heap.size) (two (PM.load l0 l1 2) ⟨[], 0, [], 0, [], false, 0⟩) (two s1 s2) (two (RM.load l0 l1) (RM.load [] [])) (.slice none 0 0) []) :=
    ⟨⟨hus, fun i => by cases i <;> first | exact x8 | exact blk_below (blk_below (blk_below HX5.out HB6.out) HB7.out) b8, fun i => by cases i <;> first | exact ho1 | exact ho2⟩⟩
  have c8 : Below w2.heap.size w2 w8 := HB3.out.trans ((HB4.out.trans ((HB5.out.trans ((HB6.out.trans ((HB7.out.trans (b8.mono HB7.out.size)).mono HB6.out.size)).mono HB5.out.size)).mono HB4.out.size)).mono HB3.out.size)
  have FA := Aside0.mk (Kd.C_below F1.out.reads (F2.out.2.trans (c8.mono F2.out.2.size)))
  have FB := Aside0.mk (Kd.C_below F2.out.reads c8)
  have HWA := Aside0.mk (((wb_row F1.out.1).below (F2.out.2.trans (c8.mono F2.out.2.size))).mono (o' := fun k => w2.heap.size ≤ k) (fun k _ h_ h3 => by have := h3.2.2; have := F2.out.2.size; omega))
  have HWB := Aside0.mk ((((wb_row F2.out.1).below c8).mono (o' := fun k => w2.heap.size ≤ k) (fun k _ h_ h3 => by have := h3.2.2; omega)).low F1.out.2.size)
  have HW8 := Aside0.mk hus.below
  have HO3 := Aside0.mk ho3
  have HW1S := Aside0.mk F1.out.2.size
  have HW2S := Aside0.mk F2.out.2.size
  have x0 := (pv_cells (HU.out.x false)).1
  have x1 := (pv_cells (HU.out.x true)).1
  have hf0 := blk_frozen (HU.out.x false)
  have hf1 := blk_frozen (HU.out.x true)
  obtain ⟨n1, hn1⟩ : ∃ n, n = w4.heap.size := ⟨_, rfl⟩
  obtain ⟨n2, hn2⟩ : ∃ n, n = w7.heap.size := ⟨_, rfl⟩
  simp only [two, Bool.false_eq_true, if_false, if_true] at x0 x1 hf0 hf1
  rw [← hn1] at x0 HU hf0 ⊢
  rw [← hn2] at x1 HU hf1 ⊢
  clear hn1 hn2 hus b8 x8 z8 ho1 ho2 ho3 c8 HR3 HB3 HW3 HR4 HB4 HX5 HZ5 HR6 HR7 HB6 HB7 HB5 F1 F2 HW2 hb0 hb1
  go_wp2_with fail
  refine (eq_t rfl rfl rfl FA.out HB0.out (Kd.C_below H0.out HW8.out) h0c (by have := HL0.out; omega)).mono ?_
  rintro e w9 ⟨rfl, n9, rfl⟩
  go_wp2_with fail
  refine (eq_t rfl rfl rfl (Kd.C_drewN FB.out _) HB1.out (Kd.C_drewN (Kd.C_below H1.out HW8.out) _) h1c (by have := HL1.out; omega)).mono ?_
  rintro e w10 ⟨rfl, n10, rfl⟩
  have hbd : Below w8.heap.size w8 (w8.drewN (n9 + n10)) := pw_below_drewN (Below.refl _ _) (n9 + n10)
  have HU2 : ∃ g p s m, Aside0 (UB W (w8.drewN (n9 + n10)) (two n1 n2) own g p s m (.slice none 0 0) []) := ⟨_, _, _, _, ⟨HU.out.next hbd⟩⟩
  have HWA := Aside0.mk (HWA.out.below hbd)
  have HWB := Aside0.mk (HWB.out.below hbd)
  obtain ⟨g, p, s, m, HU2⟩ := HU2
  have HLA := Aside0.mk (show (l0.length : Int) < 140737488355328 by have := HL0.out; omega)
  have HLB := Aside0.mk (show (l1.length : Int) < 140737488355328 by have := HL1.out; omega)
  go_upto_block 0 with fail
  refine gen_world (fun wx => UB W wx (two n1 n2) own g p s m (.slice none 0 0) [] ∧ Wb W.heap.size wx (fun k => w2.heap.size ≤ k) (.slice B0 l0.length b0) l0.length ∧ Wb W.heap.size wx (fun k => w2.heap.size ≤ k) (.slice B1 l1.length b1) l1.length) ⟨HU2.out, HWA.out, HWB.out⟩ ?_
  clear HU HU2 HWA HWB x0 x1 hf0 hf1 hbd FA FB
  rintro w11 ⟨q1, q2, q3⟩
  have HU := Aside0.mk q1
  have HWA := Aside0.mk q2
  have HWB := Aside0.mk q3
  clear q1 q2 q3
  go_cut [] (fun wx => Aside0 (UB W wx (two n1 n2) own g p s m (.slice none 0 0) []) ∧ Aside0 (Wb W.heap.size wx (fun k => w2.heap.size ≤ k) (.slice B1 l1.length b1) l1.length))
  case first =>
    have hla := HLA.out
    go_wp2_with fail
    go_loopw [15] (fun i wr => ∃ j : Nat, j ≤ l0.length ∧ i = .int .i64 (j : Int) ∧ Aside0 (UB W wr (two n1 n2) own g p s m (.slice none 0 0) []) ∧ Aside0 (Wb W.heap.size wr (fun k => w2.heap.size ≤ k) (.slice B0 l0.length b0) l0.length) ∧ Aside0 (Wb W.heap.size wr (fun k => w2.heap.size ≤ k) (.slice B1 l1.length b1) l1.length)) (fun i _ => l0.length - (intOf i).toNat)
    case atStart => exact ⟨0, by omega, rfl, HU, HWA, HWB⟩
    case round =>
      obtain ⟨j, hj, rfl, HU, HWA, HWB⟩ := hrel
      by_cases hjn : j < l0.length
      · by_cases h4 : (j : Int) < 4096
        · obtain ⟨b, f, cells, u, rfl, ea, hob, hB, hblk, hcell, hfz⟩ := wb_at HWA.out hjn
          have HO := Aside0.mk (HO3.out b (by omega))
          have HB := Aside0.mk hB
          have HBk := Aside0.mk hblk
          clear hob hblk hB
          go_wp2_with fail
          go_roundw
          case rel => exact ⟨j + 1, by omega, by go_num, ⟨HU.out.mark HO.out HB.out _⟩, ⟨HWA.out.set HBk.out⟩, ⟨HWB.out.set HBk.out⟩⟩
          case measure => simp [intOf]; omega
        · go_wp2_with fail
          go_meet
          exact ⟨HU, HWB⟩
      · go_wp2_with fail
        go_meet
        exact ⟨HU, HWB⟩
  case rest =>
  obtain ⟨HU, HWB⟩ := hcut
  go_upto_block 2 with fail
  go_cut [] (fun wx => Aside0 (UB W wx (two n1 n2) own g p s m (.slice none 0 0) []))
  case first =>
    have hlb := HLB.out
    go_wp2_with fail
    go_loopw [16] (fun i wr => ∃ j : Nat, j ≤ l1.length ∧ i = .int .i64 (j : Int) ∧ Aside0 (UB W wr (two n1 n2) own g p s m (.slice none 0 0) []) ∧ Aside0 (Wb W.heap.size wr (fun k => w2.heap.size ≤ k) (.slice B1 l1.length b1) l1.length)) (fun i _ => l1.length - (intOf i).toNat)
    case atStart => exact ⟨0, by omega, rfl, HU, HWB⟩
    case round =>
      obtain ⟨j, hj, rfl, HU, HWB⟩ := hrel
      by_cases hjn : j < l1.length
      · by_cases h4 : (j : Int) < 4096
        · obtain ⟨b, f, cells, u, rfl, ea, hob, hB, hblk, hcell, hfz⟩ := wb_at HWB.out hjn
          have HO := Aside0.mk (HO3.out b (by omega))
          have HB := Aside0.mk hB
          have HBk := Aside0.mk hblk
          clear hob hblk hB
          go_wp2_with fail
          go_roundw
          case rel => exact ⟨j + 1, by omega, by go_num, ⟨HU.out.mark HO.out HB.out _⟩, ⟨HWB.out.set HBk.out⟩⟩
          case measure => simp [intOf]; omega
        · go_wp2_with fail
          go_meet
          exact HU
      · go_wp2_with fail
        go_meet
        exact HU
  case rest =>
  have HU := hcut
  clear hcut HWB
  go_wp2_with fail
  go_loopw [17, 18] (fun va i wr => ∃ j : Nat, j ≤ ms.length ∧ i = .int .i64 (j : Int) ∧ ∃ own g p s m A c xs, va = .slice A xs.length c ∧ Aside0 (UB W wr (two n1 n2) own g p s m (.slice A xs.length c) xs) ∧ Aside0 (xs.length ≤ j)) (fun _ i _ => ms.length - (intOf i).toNat)
  case atStart => exact ⟨0, by omega, rfl, own, g, p, s, m, none, 0, [], rfl, HU, ⟨Nat.le_refl _⟩⟩
  case round =>
    clear HU
    obtain ⟨j, hj, rfl, own, g, p, s, m, A, c, xs, rfl, HU, HX⟩ := hrel
    by_cases hjn : j < ms.length
    · have hop := op_at (Kd.C_below H2.out HU.out.us.below) j hjn
      have hd0 := op_at H2.out j hjn
      obtain ⟨ad, A4, c4, rfl, x0, x1, x2, x3, x4, x5, hdc, _⟩ := hop
      have hdl := HM2.out ms[j] (List.getElem_mem hjn)
      have hidx : (j : Int) < (ms.length : Int) := by omega
      obtain ⟨mo, hm⟩ : ∃ m, m = ms[j] := ⟨_, rfl⟩
      rw [← hm] at x0 x1 x2 x3 x4 x5 hdc hdl hd0
      have HDC : Aside0 (Kd.C By W A4 mo.data.length mo.data) := by
        obtain ⟨ad', A9', c9', e', _, _, _, _, _, y5, _, hC'⟩ := hd0
        injection e' with e'
        subst e'
        have hy := (HU.out.us.below.cell (World.block_lt_of_cell? W _ y5)).trans y5
        rw [x5] at hy
        injection hy with hy
        injection hy with hy1 hy2 hy3
        subst hy1
        exact ⟨hC'⟩
      have HDL := Aside0.mk hdl
      have HDCC := Aside0.mk hdc
      have HX1 := Aside0.mk (show xs.length ≤ 2400000000000 by have := HX.out; omega)
      obtain ⟨kd, ot, fl, ma, mb, data⟩ := mo
      dsimp only at x0 x1 x2 x3 x4 x5
      clear hm hd0 hdl hdc
      obtain ⟨n, hn⟩ : ∃ n, n = wr.heap.size := ⟨_, rfl⟩
      have HN := Aside0.mk (show (own n = 0 ∧ own (n + 1) = 0) ∧ W.heap.size ≤ n by
        refine ⟨⟨?_, ?_⟩, by rw [hn]; exact HU.out.us.below.size⟩
        · by_cases h_ : own n = 0
          · exact h_
          · have := HU.out.us.lt n h_; omega
        · by_cases h_ : own (n + 1) = 0
          · exact h_
          · have := HU.out.us.lt (n + 1) h_; omega)
      go_upto_region 20 with fail
      rw [← hn]
      refine gen_world (fun wx => UB W wx (two n1 n2) own g p s m (.slice A xs.length c) xs ∧ wx.heap[n]? = some (.cells (OV ⟨kd, ot, fl, ma, mb, data⟩ A4 c4) 45 (0, 0)) ∧ wx.heap.size = n + 1) ⟨HU.out.next (below_alloc (Below.refl _ _) _), by rw [hn]; exact heap_alloc_new _ _, by rw [hn]; simp⟩ ?_
      clear hn HU x0 x1 x2 x3 x4 x5
      rintro w20 ⟨q1, q2, q3⟩
      have HU := Aside0.mk q1
      have HBO := Aside0.mk q2
      have HZ := Aside0.mk q3
      clear q1 q2 q3
      have hb0 : two n1 n2 false = n1 := rfl
      have hb1 : two n1 n2 true = n2 := rfl
      have xb0 := HU.out.x false
      rw [hb0] at xb0
      clear hb0 hb1
      obtain ⟨y0, y1, y2, y3, y4, y5, y6, y7, y8⟩ := pv_cells xb0
      have hf := blk_frozen xb0
      clear xb0
      go_upto_region 21 with fail
      rw [HZ.out]
      refine gen_world (fun wx => UB W wx (two n1 n2) own g p s m (.slice A xs.length c) xs ∧ wx.heap[n]? = some (.cells (OV ⟨kd, ot, fl, ma, mb, data⟩ A4 c4) 45 (0, 0)) ∧ wx.heap[n + 1]? = some (.cells (PV (g false) (s false) (m false)) 71 (0, 0))) ⟨HU.out.next (below_alloc (Below.refl _ _) _), blk_below HBO.out (below_alloc (Below.refl _ _) _), by rw [← HZ.out]; exact heap_alloc_new _ _⟩ ?_
      clear HU HBO HZ y0 y1 y2 y3 y4 y5 y6 y7 y8 hf
      rintro w21 ⟨q1, q2, q3⟩
      have HU := Aside0.mk q1
      have HBO := Aside0.mk q2
      have HBT := Aside0.mk q3
      clear q1 q2 q3
      obtain ⟨x0, x1, x2, x3, x4, x5⟩ := ov_cells HBO.out
      dsimp only at x0 x1 x2 x3 x4 x5
      go_upto_if 94 with fail
      go_cut [] (fun wx => Aside0 (UB W wx (two n1 n2) own g p s m (.slice A xs.length c) xs) ∧ Aside0 (wx.heap[n]? = some (.cells (OV ⟨kd, ot, fl, ma, mb, data⟩ A4 c4) 45 (0, 0))) ∧ Aside0 (wx.heap[n + 1]? = some (.cells (PV (g ot) (s ot) (m ot)) 71 (0, 0))))
      case first =>
        cases ot with
        | false =>
          go_wp2_with fail
          go_meet
          exact ⟨HU, HBO, HBT⟩
        | true =>
          have hb1 : two n1 n2 true = n2 := rfl
          have xb0 := HU.out.x true
          rw [hb1] at xb0
          clear hb1
          obtain ⟨y0, y1, y2, y3, y4, y5, y6, y7, y8⟩ := pv_cells xb0
          obtain ⟨z0, z1, z2, z3, z4, z5, z6, z7, z8⟩ := pv_cells HBT.out
          have hf := blk_frozen HBT.out
          clear xb0 x0 x1 x2 x3 x4 x5
          go_wp2_with fail
          go_meet
          exact ⟨⟨HU.out.box HN.out.1.2 (by have := HN.out.2; omega)⟩, ⟨((put9_upd (n + 1) _ _ _ _ _ _ _ _ _).block _ (blk_lt HBO.out) (by omega)).trans HBO.out⟩, ⟨pv_put9 HBT.out⟩⟩
      case rest =>
      clear HU HBO HBT x0 x1 x2 x3 x4 x5
      obtain ⟨HU, HBO, HBT⟩ := hcut
      go_upto_block 6 with fail
      go_cut [17, 21] (fun va t wx => t = .bool true ∧ ∃ own p1 s1 m1 A c xs, va = .slice A xs.length c ∧ Aside0 (UT W wx (two n1 n2) n ot g p s m ⟨kd, ot, fl, ma, mb, data⟩ A4 c4 own p1 s1 m1 (.slice A xs.length c) xs) ∧ Aside0 (xs.length ≤ j + 1))
      case first =>
        obtain ⟨x0, x1, x2, x3, x4, x5⟩ := ov_cells HBO.out
        dsimp only at x0 x1 x2 x3 x4 x5
        have hfo := blk_frozen HBO.out
        obtain ⟨z0, z1, z2, z3, z4, z5, z6, z7, z8⟩ := pv_cells HBT.out
        have hf := blk_frozen HBT.out
        by_cases h5 : kd = 5
        · subst h5
          go_wp2_with fail
          refine (HU.out.us.look_ ot (mo := ⟨5, ot, fl, ma, mb, data⟩) (A := A4) (c := c4) HX1.out).mono ?_
          rintro e w7 ⟨own', A', c', xs', rfl, hus, ho, hu, hxl⟩
          have HUT := Aside0.mk (UT.looked HU.out HBO.out HBT.out HN.out.1.1 HN.out.1.2 hus ho hu)
          have HXL := Aside0.mk hxl
          clear hus ho hu hxl x0 x1 x2 x3 x4 x5 hfo z0 z1 z2 z3 z4 z5 z6 z7 z8 hf
          go_wp2_with fail
          go_meet
          exact ⟨rfl, own', _, _, _, A', c', xs', rfl, HUT, ⟨by have := HX.out; have := HXL.out; omega⟩⟩
        by_cases h6 : kd = 6
        · subst h6
          go_wp2_with fail
          refine (HU.out.us.look_ ot (mo := ⟨6, ot, fl, ma, mb, data⟩) (A := A4) (c := c4) HX1.out).mono ?_
          rintro e w7 ⟨own', A', c', xs', rfl, hus, ho, hu, hxl⟩
          have HUT := Aside0.mk (UT.looked HU.out HBO.out HBT.out HN.out.1.1 HN.out.1.2 hus ho hu)
          have HXL := Aside0.mk hxl
          clear hus ho hu hxl x0 x1 x2 x3 x4 x5 hfo z0 z1 z2 z3 z4 z5 z6 z7 z8 hf
          go_wp2_with fail
          go_meet
          exact ⟨rfl, own', _, _, _, A', c', xs', rfl, HUT, ⟨by have := HX.out; have := HXL.out; omega⟩⟩
        have e5 : (kd == (5 : Int)) = false := by simp; omega
        have e6 : (kd == (6 : Int)) = false := by simp; omega
        have HK5 := Aside0.mk h5
        have HK6 := Aside0.mk h6
        clear h5 h6
        by_cases h1 : (1 : Int) ≤ kd
        · by_cases h4 : kd ≤ (4 : Int)
          · have HK := Aside0.mk (show 1 ≤ kd ∧ kd ≤ 4 from ⟨h1, h4⟩)
            have d1 : decide ((1 : Int) ≤ kd) = true := decide_eq_true h1
            have d4 : decide (kd ≤ (4 : Int)) = true := decide_eq_true h4
            go_wp2_with fail
            refine (HU.out.us.write_ ot (mo := ⟨kd, ot, fl, ma, mb, data⟩) HDC.out HDCC.out HDL.out HK.out).mono ?_
            rintro e w7 ⟨own', p1, s1, m1, rfl, hus, ho, hu⟩
            have HUT := Aside0.mk (UT.stepped HU.out HBO.out HBT.out HN.out.1.1 HN.out.1.2 HN.out.2 hus ho hu)
            have HBT2 := Aside0.mk ((hu.block _ (blk_lt HBT.out) (by have := HN.out.1.2; have := oi_pos ot; omega)).trans HBT.out)
            clear hus ho hu x0 x1 x2 x3 x4 x5 hfo z0 z1 z2 z3 z4 z5 z6 z7 z8 hf
            obtain ⟨z0, z1, z2, z3, z4, z5, z6, z7, z8⟩ := pv_cells HBT2.out
            have hf := blk_frozen HBT2.out
            go_wp2_with fail
            go_meet
            exact ⟨rfl, own', p1, s1, m1, A, c, xs, rfl, HUT, ⟨by have := HX.out; omega⟩⟩
          · have HK := Aside0.mk (show ¬ (1 ≤ kd ∧ kd ≤ 4) from fun h_ => h4 h_.2)
            have d1 : decide ((1 : Int) ≤ kd) = true := decide_eq_true h1
            have d4 : decide (kd ≤ (4 : Int)) = false := decide_eq_false h4
            clear h1 h4
            go_wp2_with fail
            refine (HU.out.us.order_ ot (mo := ⟨kd, ot, fl, ma, mb, data⟩) HK.out).mono ?_
            rintro e w7 ⟨own', p1, s1, m1, rfl, hus, ho, hu⟩
            have HUT := Aside0.mk (UT.stepped HU.out HBO.out HBT.out HN.out.1.1 HN.out.1.2 HN.out.2 hus ho hu)
            have HBT2 := Aside0.mk ((hu.block _ (blk_lt HBT.out) (by have := HN.out.1.2; have := oi_pos ot; omega)).trans HBT.out)
            clear hus ho hu x0 x1 x2 x3 x4 x5 hfo z0 z1 z2 z3 z4 z5 z6 z7 z8 hf
            obtain ⟨z0, z1, z2, z3, z4, z5, z6, z7, z8⟩ := pv_cells HBT2.out
            have hf := blk_frozen HBT2.out
            go_wp2_with fail
            go_meet
            exact ⟨rfl, own', p1, s1, m1, A, c, xs, rfl, HUT, ⟨by have := HX.out; omega⟩⟩
        · have HK := Aside0.mk (show ¬ (1 ≤ kd ∧ kd ≤ 4) from fun h_ => h1 h_.1)
          have d1 : decide ((1 : Int) ≤ kd) = false := decide_eq_false h1
          clear h1
          go_wp2_with fail
          refine (HU.out.us.order_ ot (mo := ⟨kd, ot, fl, ma, mb, data⟩) HK.out).mono ?_
          rintro e w7 ⟨own', p1, s1, m1, rfl, hus, ho, hu⟩
          have HUT := Aside0.mk (UT.stepped HU.out HBO.out HBT.out HN.out.1.1 HN.out.1.2 HN.out.2 hus ho hu)
          have HBT2 := Aside0.mk ((hu.block _ (blk_lt HBT.out) (by have := HN.out.1.2; have := oi_pos ot; omega)).trans HBT.out)
          clear hus ho hu x0 x1 x2 x3 x4 x5 hfo z0 z1 z2 z3 z4 z5 z6 z7 z8 hf
          obtain ⟨z0, z1, z2, z3, z4, z5, z6, z7, z8⟩ := pv_cells HBT2.out
          have hf := blk_frozen HBT2.out
          go_wp2_with fail
          go_meet
          exact ⟨rfl, own', p1, s1, m1, A, c, xs, rfl, HUT, ⟨by have := HX.out; omega⟩⟩
      case rest =>
        obtain ⟨rfl, own, p1, s1, m1, A, c, xs, rfl, HUT, HX⟩ := hcut
        clear HU HBO HBT
        obtain ⟨x0, x1, x2, x3, x4, x5⟩ := ov_cells HUT.out.bo
        dsimp only at x0 x1 x2 x3 x4 x5
        clear x2 x3 x4 x5
        obtain ⟨z0, z1, z2, z3, z4, z5, z6, z7, z8⟩ := pv_cells HUT.out.bt
        have hb0 : two n1 n2 false = n1 := rfl
        have hb1 : two n1 n2 true = n2 := rfl
        cases ot with
        | false =>
          have hb1 := HUT.out.x false
          rw [hb0] at hb1
          clear hb0
          obtain ⟨y0, y1, y2, y3, y4, y5, y6, y7, y8⟩ := pv_cells hb1
          have hf := blk_frozen hb1
          have HST := Aside0.mk HUT.out.stored
          clear hb1
          go_wp2_with fail
          go_roundw
          case rel => exact ⟨j + 1, by omega, by go_num, own, g, _, _, _, A, c, xs, rfl, HST, HX⟩
          case measure => simp [intOf]; omega
        | true =>
          have hb2 := HUT.out.x true
          rw [hb1] at hb2
          clear hb0 hb1
          obtain ⟨y0, y1, y2, y3, y4, y5, y6, y7, y8⟩ := pv_cells hb2
          have hf := blk_frozen hb2
          have HST := Aside0.mk HUT.out.stored
          clear hb2
          go_wp2_with fail
          go_roundw
          case rel => exact ⟨j + 1, by omega, by go_num, own, g, _, _, _, A, c, xs, rfl, HST, HX⟩
          case measure => simp [intOf]; omega
    · obtain rfl : j = ms.length := by omega
      go_wp2_with fail
      refine (held_calls HU.out.us.ha).mono ?_
      rintro e wz ⟨rfl, hbz⟩
      go_wp2_with fail
      go_ret
      exact ⟨rfl, HU.out.us.below.trans (hbz.mono HU.out.us.below.size)⟩
end Go.Proofs.Yticokogggepfoaa.D
