/- The program's disk: Load. No condition but that the bytes are there to be read. -/
import Derived.Test.YticokogggepfoaaDG
import Derived.Deep.RegionWith
namespace Go.Proofs.Yticokogggepfoaa.D
open Go.RowKit Go.Proofs.YticokogggepfoaaW.PrintWords Go.Proofs.YticokogggepfoaaW.PrintLast Go.Proofs.YticokogggepfoaaW.PrintMore
attribute [local go_sem] max2_int min2_int max_two min_two max_three min_three max_four min_four
set_option linter.unusedVariables false
set_option linter.unusedSimpArgs false
set_option maxRecDepth 100000
theorem RepV.put0 {W : World} {B g : Nat} {ok : Nat → Prop} {p : PM} {v0 v1 va u : Value} {xs : List Int} (h : RepV W B ok g p v0 v1 va) (hu : Kd.R By 5 W B (fun k => ok k ∧ some k ≠ v1.ownBlock) u xs)
    (hne : ∀ k, v1.ownBlock = some k → some k ≠ u.ownBlock) : RepV (W.setCell ⟨g, 0, none⟩ u) B ok g { p with b0 := xs } u v1 va := by
  obtain ⟨a, b, c⟩ := h.rows_set 0 u
  refine ⟨blk_set h.blk 0 _, Kd.R_set hu h.blk (by decide) 0 u, ?_, c, h.okg, h.bg⟩
  obtain ⟨h1, h2⟩ := b
  exact ⟨fun k hk => ⟨(h1 k hk).1, hne k hk⟩, h2.imp_ (fun _ _ hp => hp)⟩
theorem RepV.put1 {W : World} {B g : Nat} {ok : Nat → Prop} {p : PM} {v0 v1 va u : Value} {xs : List Int} (h : RepV W B ok g p v0 v1 va) (hu : Kd.R By 5 W B (fun k => ok k ∧ some k ≠ v0.ownBlock) u xs)
    (hne : ∀ k, v0.ownBlock = some k → some k ≠ u.ownBlock) : RepV (W.setCell ⟨g, 2, none⟩ u) B ok g { p with b1 := xs } v0 u va := by
  obtain ⟨a, b, c⟩ := h.rows_set 2 u
  refine ⟨blk_set h.blk 2 _, ?_, Kd.R_set hu h.blk (by decide) 2 u, c, h.okg, h.bg⟩
  obtain ⟨h1, h2⟩ := a
  exact ⟨fun k hk => ⟨(h1 k hk).1, hne k hk⟩, h2.imp_ (fun _ _ hp => hp)⟩
theorem fresh_put {w' : World} {B N : Nat} {u o : Value} {l : List Int} (h : Kd.R By 5 w' N (fun _ => True) u l) (hw : B ≤ N) (ho : ∀ k, o.ownBlock = some k → k < N) :
    Kd.R By 5 w' B (fun k => B ≤ k ∧ some k ≠ o.ownBlock) u l ∧ ∀ k, o.ownBlock = some k → some k ≠ u.ownBlock :=
  ⟨Kd.R_lower (Kd.R_mono (Kd.R_bound h) (fun k hk => ⟨Nat.le_trans hw hk.2.1, fun he => by have h1 := ho k he.symm; have := hk.2.1; omega⟩)) hw, fun k hk he => by have h1 := ho k hk; have h2 := Kd.R_base h k he.symm; omega⟩
def PM.load (l0 l1 : List Int) : Nat → PM
  | 0 => ⟨[], 0, [], 0, [], false, 0⟩
  | 1 => ⟨l0.take 16777216, min l0.length 16777216, [], 0, [], false, 0⟩
  | _ => ⟨l0.take 16777216, min l0.length 16777216, l1.take 16777216, min l1.length 16777216, [], false, 0⟩
set_option maxHeartbeats 2000000 in
theorem load_calls (W : World) (A0 : Option Addr) (c0 : Nat) (l0 : List Int) (A1 : Option Addr) (c1 : Nat) (l1 : List Int) (h0 : Kd.C By W A0 l0.length l0) (h0c : l0.length ≤ c0) (h1 : Kd.C By W A1 l1.length l1) (h1c : l1.length ≤ c1) :
    Calls Try.prog 21 #[.slice A0 l0.length c0, .slice A1 l1.length c1] W fun e W' => e = .returned (.pointer (some ⟨W.heap.size, 0, none⟩)) ∧ Rep W' W.heap.size (fun k => W.heap.size ≤ k) W.heap.size (PM.load l0 l1 2) ∧ Below W.heap.size W W' := by
  have H0 := Aside0.mk h0
  have H1 := Aside0.mk h1
  obtain ⟨i0_, hi0_, _, _, _⟩ := info_parts G.info5
  have HI := Aside0.mk hi0_
  have HC0 := Aside0.mk h0c
  have HC1 := Aside0.mk h1c
  have hx0 : ∀ w, (Instr.index 39 (.agg #[.slice A0 l0.length c0, .slice A1 l1.length c1]) (.int .i64 0)).run Try.prog w = .ok (.slice A0 l0.length c0) w := fun _ => by kernel_rfl
  have hx1 : ∀ w, (Instr.index 39 (.agg #[.slice A0 l0.length c0, .slice A1 l1.length c1]) (.int .i64 1)).run Try.prog w = .ok (.slice A1 l1.length c1) w := fun _ => by kernel_rfl
  clear h0 h1 hi0_ h0c h1c
  go_enter Try.func21, Try.ntmps21
  go_wp2
  go_loopw [13] (fun i wr => ∃ k : Nat, k ≤ 2 ∧ i = .int .i64 k ∧ Aside0 (Rep wr W.heap.size (fun k => W.heap.size ≤ k) W.heap.size (PM.load l0 l1 k)) ∧ Aside0 (Below W.heap.size W wr)) (fun i _ => 2 - (intOf i).toNat)
  case atStart =>
    exact ⟨0, by omega, rfl, ⟨_, _, _, heap_alloc_new W _, Kd.R_nil _ _ _ _ _, Kd.R_nil _ _ _ _ _, Kd.Q_nil _ _ _ _ _, Nat.le_refl _, Nat.le_refl _⟩, ⟨below_alloc (Below.refl _ _) _⟩⟩
  case round =>
    obtain ⟨k, hk, rfl, HK, HB⟩ := hrel
    obtain ⟨u0, u1, ua, hh⟩ := HK.out
    have HH := Aside0.mk hh
    clear hh HK
    rcases (show k = 0 ∨ k = 1 ∨ k = 2 by omega) with rfl | rfl | rfl
    · clear hx1
      by_cases hm : l0.length ≤ 16777216
      · skip
        have hcut := cut_to (P := Try.prog) 28 5 .i64 Try.underlying28 HI.out A0 l0.length c0 (l0.length : Int) (by omega) (by omega) HC0.out
        rw [Int.toNat_natCast] at hcut
        have d1 : ((16777216 : Int) < (l0.length : Int)) = False := eq_false (by omega)
        have HM := Aside0.mk hm
        clear hm
        go_wp2
        go_region_with (go_at_call 35; (with_reducible refine (fresh_calls A0 c0 l0 _ (Kd.C_drew (Kd.C_below H0.out HB.out)) (by have := HM.out; omega)).mono ?_); rintro e w' ⟨v, rfl, hf⟩; obtain ⟨B2, n2, rfl, hn2⟩ := Kd.R_slice_len hf.1; have hh := HH.out.drew.upd (Upd.of_below hf.2 (fun _ => False)) (fun _ _ _ hk => hk); obtain ⟨x0, x1, x2, x3, x4, x5, x6⟩ := dc_cells hh.blk; have hfz := blk_frozen hh.blk; have HF := Aside0.mk hf; have HH2 := Aside0.mk hh; clear hf hh hn2 x2 x3 x4 x5 x6)
        go_wp2
        go_roundw
        case rel =>
          have e1 : l0.take 16777216 = l0 := List.take_of_length_le HM.out
          have e2 : min l0.length 16777216 = l0.length := Nat.min_eq_left HM.out
          have hw : W.heap.size ≤ wr.heap.size := HB.out.size
          have hlt : W.heap.size < wr.heap.size := blk_lt HH.out.blk
          have ho := Kd.R_lt HH.out.r1
          obtain ⟨hu, hne⟩ := fresh_put HF.out.1 hw (o := u1) ho
          refine ⟨1, by omega, by first | rfl | go_num, ?_, ⟨(((HB.out.trans (below_drew1 (Below.refl _ _))).trans (HF.out.2.mono hw)).setCell (Nat.le_refl _) _).setCell (Nat.le_refl _) _⟩⟩
          have hfin := (HH2.out.put0 hu hne).set_s0' (x := (l0.length : Int)) (m := l0.length) rfl
          have hpm : PM.load l0 l1 1 = { (PM.load l0 l1 0) with b0 := l0, s0 := l0.length } := by simp only [PM.load]; rw [e1, e2]
          rw [hpm]
          exact ⟨_, _, _, hfin⟩
        case measure => simp [intOf]
      · skip
        have hcut := cut_to (P := Try.prog) 28 5 .i64 Try.underlying28 HI.out A0 l0.length c0 16777216 (by omega) (by omega) HC0.out
        rw [show (16777216 : Int).toNat = 16777216 from rfl] at hcut
        have d1 : ((16777216 : Int) < (l0.length : Int)) = True := eq_true (by omega)
        have HM := Aside0.mk hm
        have HN := Aside0.mk (show (l0.take 16777216).length = 16777216 by rw [List.length_take]; omega)
        have HT := Aside0.mk (show Kd.C By W A0 (l0.take 16777216).length (l0.take 16777216) from Kd.C_take (m := 16777216) H0.out (by omega))
        clear hm
        go_wp2
        go_region_with (go_at_call 35; (with_reducible refine (fresh_calls' A0 c0 16777216 (l0.take 16777216) _ HN.out (Kd.C_drew (Kd.C_below HT.out HB.out)) (by have := HN.out; omega)).mono ?_); rintro e w' ⟨v, rfl, hf⟩; obtain ⟨B2, n2, rfl, hn2⟩ := Kd.R_slice_len hf.1; rw [HN.out] at hf; have hh := HH.out.drew.upd (Upd.of_below hf.2 (fun _ => False)) (fun _ _ _ hk => hk); obtain ⟨x0, x1, x2, x3, x4, x5, x6⟩ := dc_cells hh.blk; have hfz := blk_frozen hh.blk; have HF := Aside0.mk hf; have HH2 := Aside0.mk hh; clear hf hh hn2 x2 x3 x4 x5 x6)
        go_wp2
        go_roundw
        case rel =>
          have e1 : True := trivial
          have e2 : min l0.length 16777216 = 16777216 := Nat.min_eq_right (by have := HM.out; omega)
          have e3 : min 16777216 l0.length = 16777216 := Nat.min_eq_left (by have := HM.out; omega)
          try rw [e3]
          have hw : W.heap.size ≤ wr.heap.size := HB.out.size
          have hlt : W.heap.size < wr.heap.size := blk_lt HH.out.blk
          have ho := Kd.R_lt HH.out.r1
          obtain ⟨hu, hne⟩ := fresh_put HF.out.1 hw (o := u1) ho
          refine ⟨1, by omega, by first | rfl | go_num, ?_, ⟨(((HB.out.trans (below_drew1 (Below.refl _ _))).trans (HF.out.2.mono hw)).setCell (Nat.le_refl _) _).setCell (Nat.le_refl _) _⟩⟩
          have hfin := (HH2.out.put0 hu hne).set_s0' (x := 16777216) (m := 16777216) rfl
          have hpm : PM.load l0 l1 1 = { (PM.load l0 l1 0) with b0 := l0.take 16777216, s0 := 16777216 } := by simp only [PM.load]; rw [e2]
          rw [hpm]
          exact ⟨_, _, _, hfin⟩
        case measure => simp [intOf]
    · clear hx0
      by_cases hm : l1.length ≤ 16777216
      · skip
        have hcut := cut_to (P := Try.prog) 28 5 .i64 Try.underlying28 HI.out A1 l1.length c1 (l1.length : Int) (by omega) (by omega) HC1.out
        rw [Int.toNat_natCast] at hcut
        have d1 : ((16777216 : Int) < (l1.length : Int)) = False := eq_false (by omega)
        have HM := Aside0.mk hm
        clear hm
        go_wp2
        go_region_with (go_at_call 35; (with_reducible refine (fresh_calls A1 c1 l1 _ (Kd.C_drew (Kd.C_below H1.out HB.out)) (by have := HM.out; omega)).mono ?_); rintro e w' ⟨v, rfl, hf⟩; obtain ⟨B2, n2, rfl, hn2⟩ := Kd.R_slice_len hf.1; have hh := HH.out.drew.upd (Upd.of_below hf.2 (fun _ => False)) (fun _ _ _ hk => hk); obtain ⟨x0, x1, x2, x3, x4, x5, x6⟩ := dc_cells hh.blk; have hfz := blk_frozen hh.blk; have HF := Aside0.mk hf; have HH2 := Aside0.mk hh; clear hf hh hn2 x0 x1 x4 x5 x6)
        go_wp2
        go_roundw
        case rel =>
          have e1 : l1.take 16777216 = l1 := List.take_of_length_le HM.out
          have e2 : min l1.length 16777216 = l1.length := Nat.min_eq_left HM.out
          have hw : W.heap.size ≤ wr.heap.size := HB.out.size
          have hlt : W.heap.size < wr.heap.size := blk_lt HH.out.blk
          have ho := Kd.R_lt HH.out.r0
          obtain ⟨hu, hne⟩ := fresh_put HF.out.1 hw (o := u0) ho
          refine ⟨2, by omega, by first | rfl | go_num, ?_, ⟨(((HB.out.trans (below_drew1 (Below.refl _ _))).trans (HF.out.2.mono hw)).setCell (Nat.le_refl _) _).setCell (Nat.le_refl _) _⟩⟩
          have hfin := (HH2.out.put1 hu hne).set_s1' (x := (l1.length : Int)) (m := l1.length) rfl
          have hpm : PM.load l0 l1 2 = { (PM.load l0 l1 1) with b1 := l1, s1 := l1.length } := by simp only [PM.load]; rw [e1, e2]
          rw [hpm]
          exact ⟨_, _, _, hfin⟩
        case measure => simp [intOf]
      · skip
        have hcut := cut_to (P := Try.prog) 28 5 .i64 Try.underlying28 HI.out A1 l1.length c1 16777216 (by omega) (by omega) HC1.out
        rw [show (16777216 : Int).toNat = 16777216 from rfl] at hcut
        have d1 : ((16777216 : Int) < (l1.length : Int)) = True := eq_true (by omega)
        have HM := Aside0.mk hm
        have HN := Aside0.mk (show (l1.take 16777216).length = 16777216 by rw [List.length_take]; omega)
        have HT := Aside0.mk (show Kd.C By W A1 (l1.take 16777216).length (l1.take 16777216) from Kd.C_take (m := 16777216) H1.out (by omega))
        clear hm
        go_wp2
        go_region_with (go_at_call 35; (with_reducible refine (fresh_calls' A1 c1 16777216 (l1.take 16777216) _ HN.out (Kd.C_drew (Kd.C_below HT.out HB.out)) (by have := HN.out; omega)).mono ?_); rintro e w' ⟨v, rfl, hf⟩; obtain ⟨B2, n2, rfl, hn2⟩ := Kd.R_slice_len hf.1; rw [HN.out] at hf; have hh := HH.out.drew.upd (Upd.of_below hf.2 (fun _ => False)) (fun _ _ _ hk => hk); obtain ⟨x0, x1, x2, x3, x4, x5, x6⟩ := dc_cells hh.blk; have hfz := blk_frozen hh.blk; have HF := Aside0.mk hf; have HH2 := Aside0.mk hh; clear hf hh hn2 x0 x1 x4 x5 x6)
        go_wp2
        go_roundw
        case rel =>
          have e1 : True := trivial
          have e2 : min l1.length 16777216 = 16777216 := Nat.min_eq_right (by have := HM.out; omega)
          have e3 : min 16777216 l1.length = 16777216 := Nat.min_eq_left (by have := HM.out; omega)
          try rw [e3]
          have hw : W.heap.size ≤ wr.heap.size := HB.out.size
          have hlt : W.heap.size < wr.heap.size := blk_lt HH.out.blk
          have ho := Kd.R_lt HH.out.r0
          obtain ⟨hu, hne⟩ := fresh_put HF.out.1 hw (o := u0) ho
          refine ⟨2, by omega, by first | rfl | go_num, ?_, ⟨(((HB.out.trans (below_drew1 (Below.refl _ _))).trans (HF.out.2.mono hw)).setCell (Nat.le_refl _) _).setCell (Nat.le_refl _) _⟩⟩
          have hfin := (HH2.out.put1 hu hne).set_s1' (x := 16777216) (m := 16777216) rfl
          have hpm : PM.load l0 l1 2 = { (PM.load l0 l1 1) with b1 := l1.take 16777216, s1 := 16777216 } := by simp only [PM.load]; rw [e2]
          rw [hpm]
          exact ⟨_, _, _, hfin⟩
        case measure => simp [intOf]
    · clear hx0 hx1
      go_wp2
      go_ret
      exact ⟨rfl, ⟨_, _, _, HH.out⟩, HB.out⟩
end Go.Proofs.Yticokogggepfoaa.D
