/- DiskSurvives: the walk. No condition but the lists' bulk. -/
import Derived.Test.YticokogggepfoaaLS
namespace Go.Proofs.Yticokogggepfoaa.D
open Go.RowKit Go.Proofs.YticokogggepfoaaW.PrintWords Go.Proofs.YticokogggepfoaaW.PrintLast Go.Proofs.YticokogggepfoaaW.PrintMore Go.Proofs.Yticokogggepfoaa.G
attribute [local go_sem] max2_int min2_int max_two min_two max_three min_three max_four min_four
set_option linter.unusedVariables false
set_option linter.unusedSimpArgs false
set_option maxRecDepth 100000
theorem load_dur (l0 l1 : List Int) (h0 : l0.length ≤ 16777216) (h1 : l1.length ≤ 16777216) : ((PM.load l0 l1 2).dur 0).1 = l0 ∧ ((PM.load l0 l1 2).dur 1).1 = l1 := by
  unfold PM.dur
  rw [if_neg (by unfold badF; omega), if_neg (by unfold badF; omega)]
  constructor
  · show (l0.take 16777216).take (min l0.length 16777216) = l0
    rw [List.take_take, List.take_of_length_le (by omega)]
  · show (l1.take 16777216).take (min l1.length 16777216) = l1
    rw [List.take_take, List.take_of_length_le (by omega)]
set_option maxHeartbeats 4000000 in
theorem survive_calls (W : World) (A0 A1 A2 : Option Addr) (c0 c1 c2 : Nat) (l0 l1 : List Int) (ms : List OM) (h0 : Kd.C By W A0 l0.length l0) (h0c : l0.length ≤ c0) (h0l : l0.length < 140737488355328) (h1 : Kd.C By W A1 l1.length l1) (h1c : l1.length ≤ c1) (h1l : l1.length < 140737488355328)
    (h2 : Kd.C OpK W A2 ms.length ms) (h2l : ms.length ≤ 140737488355328) (h2m : ∀ m ∈ ms, m.data.length < 140737488355328) :
    Calls Try.prog 4 #[.slice A0 l0.length c0, .slice A1 l1.length c1, .slice A2 ms.length c2] W fun e W' => e = .returned (.bool true) ∧ Below W.heap.size W W' := by
  have H0 := Aside0.mk h0
  have H1 := Aside0.mk h1
  have H2 := Aside0.mk h2
  have HM2 := Aside0.mk h2m
  have HL0 := Aside0.mk h0l
  have HL1 := Aside0.mk h1l
  clear h0 h1 h2 h2m h0l h1l
  go_enter Try.func4, Try.ntmps4
  go_wp2_with fail
  refine (works_calls _).mono ?_
  rintro e w0 ⟨rfl, hb0⟩
  have HB0 := Aside0.mk hb0
  clear hb0
  go_wp2_with fail
  refine (lcopied_calls (Kd.C_below H0.out HB0.out) h0c HL0.out).mono ?_
  rintro e w1 ⟨v, rfl, hf⟩
  obtain ⟨B0, b0, rfl, hb0⟩ := Kd.R_slice_len hf.1
  have F1 := Aside0.mk hf
  clear hf
  have HB1 := Aside0.mk (HB0.out.trans (F1.out.2.mono HB0.out.size))
  go_wp2_with fail
  refine (lcopied_calls (Kd.C_below H1.out HB1.out) h1c HL1.out).mono ?_
  rintro e w2 ⟨v, rfl, hf⟩
  obtain ⟨B1, b1, rfl, hb1⟩ := Kd.R_slice_len hf.1
  have F2 := Aside0.mk hf
  clear hf
  go_wp2_with fail
  refine (load_calls w2 B0 b0 l0 B1 b1 l1 (Kd.C_below F1.out.reads F2.out.2) hb0 F2.out.reads hb1).mono ?_
  rintro e w3 ⟨rfl, hr, hb⟩
  obtain ⟨g, hg⟩ : ∃ g, g = w2.heap.size := ⟨_, rfl⟩
  have D3 : Aside0 (Dk W w3 (fun k => w2.heap.size ≤ k ∧ W.heap.size ≤ k ∧ k < w3.heap.size) g (PM.load l0 l1 2)) := by
    have hw : W.heap.size ≤ w2.heap.size := Nat.le_trans HB1.out.size F2.out.2.size
    rw [hg]
    exact ⟨⟨(hr.lower hw).bound, fun k hk => hk.2.2, fun k hk => hk.2.1, HB1.out.trans ((F2.out.2.mono HB1.out.size).trans (hb.mono hw))⟩⟩
  rw [← hg]
  have HP0 := Aside0.mk (load_fit l0 l1)
  have HLD := Aside0.mk (load_dur l0 l1)
  have hdn : (PM.load l0 l1 2).dn = false := rfl
  obtain ⟨p0, hp0⟩ : ∃ p0, p0 = PM.load l0 l1 2 := ⟨_, rfl⟩
  rw [← hp0] at D3 HP0 HLD hdn
  have HDN := Aside0.mk hdn
  obtain ⟨o, ho⟩ : ∃ o, o = fun k => w2.heap.size ≤ k ∧ W.heap.size ≤ k ∧ k < w3.heap.size := ⟨_, rfl⟩
  rw [← ho] at D3
  clear hr hb hg hp0 hb0 hb1 F1 F2 hdn ho HB0 HB1
  go_upto_region 6 with fail
  go_cut [27] (fun v wx => (∃ bb : Bool, v = .bool bb ∧ Aside0 (bb = true → l0.length ≤ 16777216 ∧ l1.length ≤ 16777216)) ∧ Aside0 (Dk W wx o g p0))
  case first =>
    by_cases q0 : l0.length ≤ 16777216
    · by_cases q1 : l1.length ≤ 16777216
      · have g0 : decide ((l0.length : Int) ≤ 16777216) = true := decide_eq_true (by omega)
        have g1 : decide ((l1.length : Int) ≤ 16777216) = true := decide_eq_true (by omega)
        have HQ := Aside0.mk q0
        have HQ1 := Aside0.mk q1
        clear q0 q1
        go_wp2
        go_meet
        exact ⟨⟨true, rfl, ⟨fun _ => ⟨HQ.out, HQ1.out⟩⟩⟩, D3⟩
      · have g0 : decide ((l0.length : Int) ≤ 16777216) = true := decide_eq_true (by omega)
        have g1 : decide ((l1.length : Int) ≤ 16777216) = false := decide_eq_false (by omega)
        clear q0 q1
        go_wp2
        go_meet
        exact ⟨⟨false, rfl, ⟨fun h_ => by cases h_⟩⟩, D3⟩
    · have g0 : decide ((l0.length : Int) ≤ 16777216) = false := decide_eq_false (by omega)
      clear q0
      go_wp2
      go_meet
      exact ⟨⟨false, rfl, ⟨fun h_ => by cases h_⟩⟩, D3⟩
  case rest =>
    obtain ⟨⟨bb, rfl, HBB⟩, D4⟩ := hcut
    clear D3
    go_upto_if 27 with fail
    go_cut [] (fun wx => Aside0 (Dk W wx o g p0))
    case first =>
      cases bb with
      | false =>
        go_wp2
        go_meet
        exact D4
      | true =>
        obtain ⟨q0, q1⟩ := HBB.out rfl
        obtain ⟨e0, e1⟩ := HLD.out q0 q1
        have HE0 := Aside0.mk e0
        have HE1 := Aside0.mk e1
        have HQ0 := Aside0.mk q0
        have HQ1 := Aside0.mk q1
        clear q0 q1 e0 e1
        go_wp2_with fail
        refine (sides_calls D4.out.rep HP0.out.ok).mono ?_
        rintro e w5 ⟨a, rfl, hs, hb⟩
        obtain ⟨s, hsd⟩ : ∃ s, s = p0.sd := ⟨_, rfl⟩
        rw [← hsd] at hs ⊢
        have HSD := Aside0.mk hsd
        obtain ⟨r0, r1, d0, d1, dn⟩ := s
        have HD0 := Aside0.mk (show d0 = l0 from (congrArg SD.d0 HSD.out).trans HE0.out)
        have HD1 := Aside0.mk (show d1 = l1 from (congrArg SD.d1 HSD.out).trans HE1.out)
        obtain rfl : dn = false := (congrArg SD.dn HSD.out).trans HDN.out
        have HS := Aside0.mk (hs.below (bx w5 (.cells (SDV ⟨r0, r1, d0, d1, false⟩ a) 41))).sc
        have D5 := Aside0.mk ((D4.out.keep hb).keep (bx w5 (.cells (SDV ⟨r0, r1, d0, d1, false⟩ a) 41)))
        clear hs hb hsd
        go_wp2_with fail
        refine (equal_n HD0.out rfl rfl HS.out.d0.C HS.out.d0.cap (Kd.C_below H0.out D5.out.below) h0c HS.out.d0.len).mono ?_
        rintro e w7 ⟨rfl, n7, rfl⟩
        go_wp2_with fail
        refine (equal_n HD1.out rfl rfl (Kd.C_drewN HS.out.d1.C _) HS.out.d1.cap (Kd.C_drewN (Kd.C_below H1.out D5.out.below) _) h1c HS.out.d1.len).mono ?_
        rintro e w8 ⟨rfl, n8, rfl⟩
        go_wp2_with fail
        go_meet
        exact ⟨D5.out.keep (by repeat (first | exact Below.refl _ _ | refine pw_below_drewN ?_ _))⟩
    case rest =>
      have D6 := hcut
      clear D4 hcut
      go_wp2_with fail
      go_loopw [9] (fun i wr => ∃ j : Nat, j ≤ ms.length ∧ i = .int .i64 (j : Int) ∧ ∃ o : Nat → Prop, Aside0 (Dk W wr o g (plays p0 (ms.take j)))) (fun i _ => ms.length - (intOf i).toNat)
      case atStart => exact ⟨0, Nat.zero_le _, rfl, _, D6⟩
      case round =>
        obtain ⟨j, hj, rfl, o, HD⟩ := hrel
        have HOK := Aside0.mk (plays_fit HP0.out (ms.take j))
        by_cases hjn : j < ms.length
        · have hop := op_at (Kd.C_below H2.out HD.out.below) j hjn
          have hd0 := op_at H2.out j hjn
          obtain ⟨ad, A4, c4, rfl, x0, x1, x2, x3, x4, x5, hdc, _⟩ := hop
          have hdl := HM2.out ms[j] (List.getElem_mem hjn)
          have hidx : (j : Int) < (ms.length : Int) := by omega
          have HS := Aside0.mk (plays_take (p := p0) hjn)
          obtain ⟨m, hm⟩ : ∃ m, m = ms[j] := ⟨_, rfl⟩
          rw [← hm] at x0 x1 x2 x3 x4 x5 hdc hdl HS hd0
          have HDC : Aside0 (Kd.C By W A4 m.data.length m.data) := by
            obtain ⟨ad', A9', c9', e', _, _, _, _, _, y5, _, hC'⟩ := hd0
            injection e' with e'
            subst e'
            have hy := (HD.out.below.cell (World.block_lt_of_cell? W _ y5)).trans y5
            rw [x5] at hy
            injection hy with hy
            injection hy with hy1 hy2 hy3
            subst hy1
            exact ⟨hC'⟩
          clear hm hd0
          go_wp2_with fail
          refine (survives_calls (m := m) HD.out HOK.out HDC.out hdc hdl).mono ?_
          rintro e w5 ⟨rfl, o', hd⟩
          have D7 := Aside0.mk hd
          clear hd x0 x1 x2 x3 x4 x5
          go_wp2_with fail
          go_roundw
          case rel => exact ⟨j + 1, by omega, by go_num, _, by rw [HS.out]; exact D7⟩
          case measure => simp [intOf]; omega
        · obtain rfl : j = ms.length := by omega
          go_wp2_with fail
          go_ret
          exact ⟨rfl, HD.out.below⟩
end Go.Proofs.Yticokogggepfoaa.D
