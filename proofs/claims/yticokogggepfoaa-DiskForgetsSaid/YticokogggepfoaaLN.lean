/- DiskForgets: the walk. No condition but the lists' bulk. -/
import Derived.Test.YticokogggepfoaaLM
namespace Go.Proofs.Yticokogggepfoaa.D
open Go.RowKit Go.Proofs.YticokogggepfoaaW.PrintWords Go.Proofs.YticokogggepfoaaW.PrintLast Go.Proofs.YticokogggepfoaaW.PrintMore Go.Proofs.Yticokogggepfoaa.G
attribute [local go_sem] max2_int min2_int max_two min_two max_three min_three max_four min_four
set_option linter.unusedVariables false
set_option linter.unusedSimpArgs false
set_option maxRecDepth 100000
def nexts (p : PM) (ms : List OM) : PM := ms.foldl (fun p m => m.next p) p
theorem nexts_take {p : PM} {ms : List OM} {j : Nat} (h : j < ms.length) : nexts p (ms.take (j + 1)) = ms[j].next (nexts p (ms.take j)) := by
  unfold nexts
  rw [List.take_succ_eq_append_getElem h, List.foldl_append]; rfl
theorem nexts_fit {p : PM} (h : p.fit) (ms : List OM) : (nexts p ms).fit := by
  induction ms generalizing p with
  | nil => exact h
  | cons m r ih => exact ih (next_fit h m)
set_option maxHeartbeats 8000000 in
theorem forgets_calls (W : World) (A0 A1 A2 A3 : Option Addr) (c0 c1 c2 c3 : Nat) (l0 l1 : List Int) (ms ns : List OM) (h0 : Kd.C By W A0 l0.length l0) (h0c : l0.length ≤ c0) (h0l : l0.length < 140737488355328) (h1 : Kd.C By W A1 l1.length l1) (h1c : l1.length ≤ c1) (h1l : l1.length < 140737488355328)
    (h2 : Kd.C OpK W A2 ms.length ms) (h2l : ms.length ≤ 140737488355328) (h2m : ∀ m ∈ ms, m.data.length < 140737488355328) (h3 : Kd.C OpK W A3 ns.length ns) (h3l : ns.length ≤ 140737488355328) (h3m : ∀ m ∈ ns, m.data.length < 140737488355328) :
    Calls Try.prog 10 #[.slice A0 l0.length c0, .slice A1 l1.length c1, .slice A2 ms.length c2, .slice A3 ns.length c3] W fun e W' => e = .returned (.bool true) ∧ Below W.heap.size W W' := by
  have H0 := Aside0.mk h0
  have H1 := Aside0.mk h1
  have H2 := Aside0.mk h2
  have H3 := Aside0.mk h3
  have HM2 := Aside0.mk h2m
  have HM3 := Aside0.mk h3m
  clear h0 h1 h2 h3 h2m h3m
  go_enter Try.func10, Try.ntmps10
  go_wp2_with fail
  refine (lcopied_calls H0.out h0c h0l).mono ?_
  rintro e w1 ⟨v, rfl, hf⟩
  obtain ⟨B0, b0, rfl, hb0⟩ := Kd.R_slice_len hf.1
  have F1 := Aside0.mk hf
  clear hf
  go_wp2_with fail
  refine (lcopied_calls (Kd.C_below H1.out F1.out.2) h1c h1l).mono ?_
  rintro e w2 ⟨v, rfl, hf⟩
  obtain ⟨B1, b1, rfl, hb1⟩ := Kd.R_slice_len hf.1
  have F2 := Aside0.mk hf
  clear hf
  go_wp2_with fail
  refine (load_calls w2 B0 b0 l0 B1 b1 l1 (Kd.C_below F1.out.reads F2.out.2) hb0 F2.out.reads hb1).mono ?_
  rintro e w3 ⟨rfl, hr, hb⟩
  obtain ⟨g, hg⟩ : ∃ g, g = w2.heap.size := ⟨_, rfl⟩
  have D3 : Aside0 (Dk W w3 (fun k => w2.heap.size ≤ k ∧ W.heap.size ≤ k ∧ k < w3.heap.size) g (PM.load l0 l1 2)) := by
    have hw : W.heap.size ≤ w2.heap.size := Nat.le_trans F1.out.2.size F2.out.2.size
    rw [hg]
    exact ⟨⟨(hr.lower hw).bound, fun k hk => hk.2.2, fun k hk => hk.2.1, F1.out.2.trans ((F2.out.2.mono F1.out.2.size).trans (hb.mono hw))⟩⟩
  rw [← hg]
  have HP0 := Aside0.mk (load_fit l0 l1)
  obtain ⟨p0, hp0⟩ : ∃ p0, p0 = PM.load l0 l1 2 := ⟨_, rfl⟩
  rw [← hp0] at D3 HP0
  clear hr hb hg hp0 hb0 hb1 F1 F2
  go_wp2_with fail
  refine (works_calls _).mono ?_
  rintro e w4 ⟨rfl, hb⟩
  have D4 := Aside0.mk (D3.out.keep hb)
  clear hb D3
  go_wp2_with fail
  go_loopw [10] (fun i wr => ∃ j : Nat, j ≤ ms.length ∧ i = .int .i64 (j : Int) ∧ ∃ o : Nat → Prop, Aside0 (Dk W wr o g (plays p0 (ms.take j)))) (fun i _ => ms.length - (intOf i).toNat)
  case atStart => exact ⟨0, Nat.zero_le _, rfl, _, D4⟩
  case round =>
    obtain ⟨j, hj, rfl, o, HD⟩ := hrel
    have HOK := Aside0.mk (plays_fit HP0.out (ms.take j))
    by_cases hjn : j < ms.length
    · obtain ⟨ad, A4, c4, rfl, x0, x1, x2, x3, x4, x5, hdc, hdC⟩ := op_at (Kd.C_below H2.out HD.out.below) j hjn
      have hdl := HM2.out ms[j] (List.getElem_mem hjn)
      have hidx : (j : Int) < (ms.length : Int) := by omega
      have HS := Aside0.mk (plays_take (p := p0) hjn)
      obtain ⟨m, hm⟩ : ∃ m, m = ms[j] := ⟨_, rfl⟩
      rw [← hm] at x0 x1 x2 x3 x4 x5 hdc hdC hdl HS
      have HDC := Aside0.mk hdC
      clear hdC hm
      go_wp2_with fail
      refine (done_calls (m := m) HD.out.rep HOK.out.ok HD.out.bw HDC.out hdc hdl).mono ?_
      rintro e w5 ⟨rfl, hr, hu⟩
      have D5 := Aside0.mk (HD.out.step hr hu)
      clear hr hu x0 x1 x2 x3 x4 x5
      go_wp2_with fail
      go_roundw
      case rel => exact ⟨j + 1, by omega, by go_num, _, by rw [HS.out]; exact D5⟩
      case measure => simp [intOf]; omega
    · obtain rfl : j = ms.length := by omega
      rw [List.take_length] at HD HOK
      obtain ⟨p, hp⟩ : ∃ p, p = plays p0 ms := ⟨_, rfl⟩
      rw [← hp] at HD HOK
      clear hp
      go_wp2_with fail
      refine (disarm_calls HD.out.rep).mono ?_
      rintro e w5 ⟨⟨v, rfl⟩, hr, hu⟩
      have D5 := Aside0.mk (HD.out.step0 hr hu)
      clear hr hu
      obtain ⟨dd, hdd⟩ : ∃ dd, dd = p.disarm.dn := ⟨_, rfl⟩
      have HDD := Aside0.mk hdd
      clear hdd
      go_upto_if 47 with (go_at_call 18; ((with_reducible refine (down_calls D5.out.rep).mono ?_); rintro e w6 ⟨rfl, rfl⟩; rw [← HDD.out]))
      go_cut [] (fun wx => ∃ o : Nat → Prop, Aside0 (Dk W wx o g p.felled))
      case first =>
        cases dd with
        | true =>
          go_wp2_with fail
          go_meet
          exact ⟨_, by unfold PM.felled; rw [if_pos HDD.out.symm]; exact D5⟩
        | false =>
          have hfl := fell_sync (p := p) (show p.dn = false from HDD.out.symm)
          have HFE := Aside0.mk (show p.felled = (({ p with ar := [(1, 0)] } : PM).syncf 0).1 by unfold PM.felled; rw [if_neg (by rw [← HDD.out]; simp), arm10])
          have HF := Aside0.mk hfl
          have HA := Aside0.mk (arm10 p)
          have HAO := Aside0.mk (show ({ p with ar := [(1, 0)] } : PM).ok by have h_ := arm_ok (disarm_ok HOK.out.ok) 1 0; rwa [arm10] at h_)
          clear hfl
          go_wp2_with fail
          refine (arm_calls D5.out.rep (disarm_ok HOK.out.ok) D5.out.bw 1 0).mono ?_
          rintro e w7 ⟨rfl, hr, hu⟩
          rw [HA.out] at hr ⊢
          have D7 := Aside0.mk (D5.out.step hr hu)
          clear hr hu
          go_wp2_with fail
          refine (sync_calls D7.out.rep HAO.out D7.out.bw 0).mono ?_
          rintro e w8 ⟨rfl, hr, hu⟩
          rw [HF.out.1]
          rw [← HFE.out] at hr
          have D8 := Aside0.mk (D7.out.step hr hu)
          clear hr hu
          go_wp2_with fail
          go_meet
          exact ⟨_, D8⟩
      case rest =>
        obtain ⟨o, D8⟩ := hcut
        have HFI := Aside0.mk (felled_fit HOK.out)
        have HAN := Aside0.mk (anew_restart HOK.out)
        have HAF := Aside0.mk (anew_fit HOK.out)
        have HAL := Aside0.mk (anew_load HOK.out)
        clear D5 HD HDD
        go_wp2_with fail
        refine (restart_calls D8.out.rep).mono ?_
        rintro e w9 ⟨rfl, hr, hu⟩
        rw [HAN.out] at hr ⊢
        have D9 := Aside0.mk (D8.out.step0 hr hu)
        clear hr hu D8
        obtain ⟨q, hq⟩ : ∃ q, q = p.anew := ⟨_, rfl⟩
        rw [← hq] at D9 HAF HAL
        clear hq HAN HFI
        go_wp2_with fail
        refine (side_calls D9.out.rep HAF.out.ok).mono ?_
        rintro e w10 ⟨v0, v1, v2, v3, rfl, hb, s0, s1, s2, s3⟩
        obtain ⟨l2, hl2⟩ : ∃ l, l = (q.dur 0).1 := ⟨_, rfl⟩
        obtain ⟨l3, hl3⟩ : ∃ l, l = (q.dur 1).1 := ⟨_, rfl⟩
        rw [← hl2] at s2 HAL
        rw [← hl3] at s3 HAL
        have D10 := Aside0.mk (D9.out.keep hb)
        have S2 := Aside0.mk s2
        have S3 := Aside0.mk s3
        obtain ⟨A5, c5, rfl, hc5, hF5, _⟩ := s2
        obtain ⟨A6, c6, rfl, hc6, hF6, _⟩ := s3
        obtain ⟨A7, c7, rfl, _⟩ := s0
        obtain ⟨A8, c8, rfl, _⟩ := s1
        have HC5 := Aside0.mk (f_now hF5)
        have HC6 := Aside0.mk (f_now hF6)
        have HC5c := Aside0.mk hc5
        have HC6c := Aside0.mk hc6
        have HB10 := Aside0.mk hb
        clear hb hl2 hl3 hc5 hc6 hF5 hF6
        go_wp2_with fail
        refine (load_calls _ A5 c5 l2 A6 c6 l3 (Kd.C_alloc HC5.out _) HC5c.out (Kd.C_alloc HC6.out _) HC6c.out).mono ?_
        rintro e w12 ⟨rfl, hr, hb⟩
        obtain ⟨w11, hw11⟩ : ∃ w, w = w10.alloc (Obj.cells #[Value.slice A7 (q.read 0).fst.length c7, Value.slice A8 (q.read 1).fst.length c8, Value.slice A5 l2.length c5, Value.slice A6 l3.length c6, Value.bool q.dn] 41) := ⟨_, rfl⟩
        rw [← hw11] at hr hb ⊢
        have hz11 : w11.heap.size = w10.heap.size + 1 := by rw [hw11]; simp
        have hb11 : Below w10.heap.size w10 w11 := by rw [hw11]; exact bx w10 _
        have hx11 : w11.heap[w10.heap.size]? = some (.cells #[.slice A7 (q.read 0).1.length c7, .slice A8 (q.read 1).1.length c8, .slice A5 l2.length c5, .slice A6 l3.length c6, .bool q.dn] 41 (0, 0)) := by rw [hw11]; exact heap_alloc_new w10 _
        clear hw11
        have hw : W.heap.size ≤ w10.heap.size := D10.out.bw
        have D12 : Dk W w12 (fun k => w11.heap.size ≤ k ∧ W.heap.size ≤ k ∧ k < w12.heap.size) w11.heap.size (PM.load l2 l3 2) :=
          ⟨(hr.lower (by omega)).bound, fun k hk => hk.2.2, fun k hk => hk.2.1, D10.out.below.trans ((hb11.mono hw).trans (hb.mono (by omega)))⟩
        rw [HAL.out] at D12
        have hsz := HB10.out.size
        have HW : Aside0 (PrW W w12 w10.heap.size (.slice A7 (q.read 0).1.length c7) (.slice A8 (q.read 1).1.length c8) (.slice A5 l2.length c5) (.slice A6 l3.length c6) q.dn l2.length l3.length g q w11.heap.size (q.sh q.wr) (fun k => (o k ∨ wc.heap.size ≤ k) ∧ W.heap.size ≤ k ∧ k < w9.heap.size) (fun k => w11.heap.size ≤ k ∧ W.heap.size ≤ k ∧ k < w12.heap.size)) := by
          refine ⟨⟨(D10.out.keep hb11).keep hb, D12, fun k h1 h2 => by have := h1.2.2; have := h2.1; omega, ?_, ?_, blk_below hx11 hb⟩⟩
          · exact (Wb.below (wb_of_sl S2.out (fun k hk hlt => by rcases hk with h_ | h_ <;> omega) D9.out.bw) hb11).below hb
          · exact (Wb.below (wb_of_sl S3.out (fun k hk hlt => by rcases hk with h_ | h_ <;> omega) D9.out.bw) hb11).below hb
        clear hr hb hz11 hb11 hx11 hw D12 hsz HAL D10 S2 S3 HC5 HC6 HC5c HC6c HB10 D9
        go_wp2_with fail
        go_loopw [15] (fun i wr => ∃ k : Nat, k ≤ 2 ∧ i = .int .i64 (k : Int) ∧ Aside0 (PrW W wr w10.heap.size (.slice A7 (q.read 0).1.length c7) (.slice A8 (q.read 1).1.length c8) (.slice A5 l2.length c5) (.slice A6 l3.length c6) q.dn l2.length l3.length g q w11.heap.size (q.sh q.wr) (fun k => (o k ∨ wc.heap.size ≤ k) ∧ W.heap.size ≤ k ∧ k < w9.heap.size) (fun k => w11.heap.size ≤ k ∧ W.heap.size ≤ k ∧ k < w12.heap.size))) (fun i _ => 2 - (intOf i).toNat)
        case atStart => exact ⟨0, by omega, rfl, HW⟩
        case round =>
          obtain ⟨k, hk, rfl, HK⟩ := hrel
          clear HW
          rcases (show k = 0 ∨ k = 1 ∨ k = 2 by omega) with rfl | rfl | rfl
          · go_wp2_with fail
            go_loopw [16] (fun i wr => ∃ j : Nat, j ≤ l2.length ∧ i = .int .i64 (j : Int) ∧ Aside0 (PrW W wr w10.heap.size (.slice A7 (q.read 0).1.length c7) (.slice A8 (q.read 1).1.length c8) (.slice A5 l2.length c5) (.slice A6 l3.length c6) q.dn l2.length l3.length g q w11.heap.size (q.sh q.wr) (fun k => (o k ∨ wc.heap.size ≤ k) ∧ W.heap.size ≤ k ∧ k < w9.heap.size) (fun k => w11.heap.size ≤ k ∧ W.heap.size ≤ k ∧ k < w12.heap.size))) (fun i _ => l2.length - (intOf i).toNat)
            case atStart => exact ⟨0, by omega, rfl, HK⟩
            case round =>
              obtain ⟨j, hj, rfl, HJ⟩ := hrel
              obtain ⟨x2, x3⟩ := pw_cells HJ.out
              by_cases hjn : j < l2.length
              · by_cases h4 : j < 4096
                · obtain ⟨b, f, cells, u, rfl, ea, hob, hB, hblk, hcell, hfz⟩ := wb_at HJ.out.w2 hjn
                  have HO := Aside0.mk hob
                  have HBk := Aside0.mk hblk
                  have HBB := Aside0.mk hB
                  clear hob hblk hB
                  go_wp2_with fail
                  go_roundw
                  case rel => exact ⟨j + 1, by omega, by go_num, ⟨HJ.out.put HBk.out HBB.out HO.out _⟩⟩
                  case measure => simp [intOf]; omega
                · go_wp2_with fail
                  go_roundw
                  case rel => exact ⟨1, by omega, by first | rfl | go_num, HJ⟩
                  case measure => simp [intOf]
              · go_wp2_with fail
                go_roundw
                case rel => exact ⟨1, by omega, by first | rfl | go_num, HJ⟩
                case measure => simp [intOf]
          · go_wp2_with fail
            go_loopw [16] (fun i wr => ∃ j : Nat, j ≤ l3.length ∧ i = .int .i64 (j : Int) ∧ Aside0 (PrW W wr w10.heap.size (.slice A7 (q.read 0).1.length c7) (.slice A8 (q.read 1).1.length c8) (.slice A5 l2.length c5) (.slice A6 l3.length c6) q.dn l2.length l3.length g q w11.heap.size (q.sh q.wr) (fun k => (o k ∨ wc.heap.size ≤ k) ∧ W.heap.size ≤ k ∧ k < w9.heap.size) (fun k => w11.heap.size ≤ k ∧ W.heap.size ≤ k ∧ k < w12.heap.size))) (fun i _ => l3.length - (intOf i).toNat)
            case atStart => exact ⟨0, by omega, rfl, HK⟩
            case round =>
              obtain ⟨j, hj, rfl, HJ⟩ := hrel
              obtain ⟨x2, x3⟩ := pw_cells HJ.out
              by_cases hjn : j < l3.length
              · by_cases h4 : j < 4096
                · obtain ⟨b, f, cells, u, rfl, ea, hob, hB, hblk, hcell, hfz⟩ := wb_at HJ.out.w3 hjn
                  have HO := Aside0.mk hob
                  have HBk := Aside0.mk hblk
                  have HBB := Aside0.mk hB
                  clear hob hblk hB
                  go_wp2_with fail
                  go_roundw
                  case rel => exact ⟨j + 1, by omega, by go_num, ⟨HJ.out.put HBk.out HBB.out HO.out _⟩⟩
                  case measure => simp [intOf]; omega
                · go_wp2_with fail
                  go_roundw
                  case rel => exact ⟨2, by omega, by first | rfl | go_num, HJ⟩
                  case measure => simp [intOf]
              · go_wp2_with fail
                go_roundw
                case rel => exact ⟨2, by omega, by first | rfl | go_num, HJ⟩
                case measure => simp [intOf]
          · have HPR := Aside0.mk HK.out.pr
            clear HK
            go_wp2_with fail
            refine (pr_writes HPR.out).mono ?_
            rintro e w13 ⟨rfl, rfl⟩
            go_wp2_with fail
            go_loopw [18] (fun i wr => ∃ j : Nat, j ≤ ns.length ∧ i = .int .i64 (j : Int) ∧ Aside0 (Pr W wr g (nexts q (ns.take j)) w11.heap.size ((nexts q (ns.take j)).sh q.wr))) (fun i _ => ns.length - (intOf i).toNat)
            case atStart => exact ⟨0, Nat.zero_le _, rfl, HPR⟩
            case round =>
              obtain ⟨j, hj, rfl, HD⟩ := hrel
              have HOK2 := Aside0.mk (nexts_fit HAF.out (ns.take j))
              by_cases hjn : j < ns.length
              · obtain ⟨ad, A9, c9, rfl, x0, x1, x2, x3, x4, x5, hdc, hdC⟩ := op_at (Kd.C_below H3.out HD.out.below) j hjn
                have hdl := HM3.out ns[j] (List.getElem_mem hjn)
                have hd0 := op_at H3.out j hjn
                have hidx : (j : Int) < (ns.length : Int) := by omega
                have HS := Aside0.mk (nexts_take (p := q) hjn)
                obtain ⟨m, hm⟩ : ∃ m, m = ns[j] := ⟨_, rfl⟩
                rw [← hm] at x0 x1 x2 x3 x4 x5 hdc hdC hdl HS hd0
                have HDC : Aside0 (Kd.C By W A9 m.data.length m.data) := by
                  obtain ⟨ad', A9', c9', e', _, _, _, _, _, y5, _, hC'⟩ := hd0
                  injection e' with e'
                  subst e'
                  have hy := (HD.out.below.cell (World.block_lt_of_cell? W _ y5)).trans y5
                  rw [x5] at hy
                  injection hy with hy
                  injection hy with hy1 hy2 hy3
                  subst hy1
                  exact ⟨hC'⟩
                clear hdC hm hd0
                go_wp2_with fail
                refine (same_calls (m := m) q.wr HD.out HOK2.out.ok HDC.out hdc hdl).mono ?_
                rintro e w14 ⟨rfl, hr⟩
                have HR := Aside0.mk hr
                clear hr x0 x1 x2 x3 x4 x5
                go_wp2_with fail
                go_roundw
                case rel => exact ⟨j + 1, by omega, by go_num, by rw [HS.out]; exact HR⟩
                case measure => simp [intOf]; omega
              · obtain rfl : j = ns.length := by omega
                go_wp2_with fail
                go_ret
                exact ⟨rfl, HD.out.below⟩
end Go.Proofs.Yticokogggepfoaa.D
