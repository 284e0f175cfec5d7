/- survives: one step of a script, looked at from without. No condition but that the disk is whole. -/
import Derived.Test.YticokogggepfoaaLR
namespace Go.Proofs.Yticokogggepfoaa.D
open Go.RowKit Go.Proofs.YticokogggepfoaaW.PrintWords Go.Proofs.YticokogggepfoaaW.PrintLast Go.Proofs.YticokogggepfoaaW.PrintMore Go.Proofs.Yticokogggepfoaa.G
attribute [local go_sem] max2_int min2_int max_two min_two max_three min_three max_four min_four
set_option linter.unusedVariables false
set_option linter.unusedSimpArgs false
set_option maxRecDepth 100000
structure SV (W w : World) (m : OM) (A : Option Addr) (c : Nat) (s : SD) (a : SL) (t : SD) (b : SL) (x0 x1 x2 : Nat) (o : Nat → Prop) (g : Nat) (p : PM) : Prop where
  dk : Dk W w o g p
  op : w.heap[x0]? = some (.cells (OV m A c) 45 (0, 0))
  was : w.heap[x1]? = some (.cells (SDV s a) 41 (0, 0))
  is : w.heap[x2]? = some (.cells (SDV t b) 41 (0, 0))
  cs : SC w s a
  ct : SC w t b
section
variable {W w w' : World} {m : OM} {A : Option Addr} {c : Nat} {s t : SD} {a b : SL} {x0 x1 x2 g : Nat} {o : Nat → Prop} {p : PM}
theorem SV.next (h : SV W w m A c s a t b x0 x1 x2 o g p) (hb : Below w.heap.size w w') : SV W w' m A c s a t b x0 x1 x2 o g p :=
  ⟨h.dk.keep hb, blk_below h.op hb, blk_below h.was hb, blk_below h.is hb, h.cs.next hb, h.ct.next hb⟩
/-- The way to the first test: what was seen, the step, what is seen. Then K. -/
theorem drewN_below (w : World) (n : Nat) : Below w.heap.size w (w.drewN n) := pw_below_drewN (Below.refl _ _) n
set_option maxHeartbeats 1000000 in
theorem survives_calls (h : Dk W w o g p) (hp : p.fit) (hC : Kd.C By W A m.data.length m.data) (hc : m.data.length ≤ c) (hl : m.data.length < 140737488355328) :
    Calls Try.prog 23 #[.pointer (some ⟨g, 0, none⟩), .agg (OV m A c)] w fun e w' => e = .returned (.bool true) ∧ ∃ o', Dk W w' o' g (m.done p).1 := by
  have H := Aside0.mk h
  have HP := Aside0.mk hp
  have HC := Aside0.mk hC
  have HCC := Aside0.mk hc
  have HL := Aside0.mk hl
  have hu45 := Try.underlying45
  have hu41 := Try.underlying41
  have HST := Aside0.mk (step_done hp m)
  obtain ⟨p', hp'⟩ : ∃ p', p' = m.done p := ⟨_, rfl⟩
  have HPP := Aside0.mk hp'
  have HF' := Aside0.mk (done_fit hp m)
  rw [← hp'] at HST HF' ⊢
  clear h hp hC hc hl hp'
  go_enter Try.func23, Try.ntmps23
  go_wp2_with fail
  refine (sides_calls (H.out.keep (bx w _)).rep HP.out.ok).mono ?_
  rintro e w1 ⟨a, rfl, hs, hb⟩
  have HS := Aside0.mk hs
  have HB := Aside0.mk hb
  obtain ⟨s, hsd⟩ : ∃ s, s = p.sd := ⟨_, rfl⟩
  have HSD := Aside0.mk hsd
  rw [← hsd] at HS ⊢
  have HDN := Aside0.mk (show s.dn = p.dn by rw [hsd]; rfl)
  clear hs hb hsd
  go_upto_region 2 with fail
  refine gen_world (fun w2 => Dk W w2 o g p ∧ w2.heap[w.heap.size]? = some (.cells (OV m A c) 45 (0, 0)) ∧ w2.heap[w1.heap.size]? = some (.cells (SDV s a) 41 (0, 0)) ∧ SF (w.alloc (.cells (OV m A c) 45)).heap.size w2 s a ∧ Below w1.heap.size w1 w2) ⟨((H.out.keep (bx w _)).keep HB.out).keep (bx w1 _), blk_below (blk_below (heap_alloc_new w _) HB.out) (bx w1 _), heap_alloc_new w1 _, HS.out.below (bx w1 _), bx w1 _⟩ ?_
  rintro w2 ⟨h1, h2, h3, h4, h5⟩
  have hlo := H.out.lt
  have hsz : (w.alloc (.cells (OV m A c) 45)).heap.size = w.heap.size + 1 := by simp
  have hw1 := HB.out.size
  rw [hsz] at h4 hw1
  have HX : Aside0 (∀ k, o k → k < w.heap.size) := ⟨hlo⟩
  have H1 := Aside0.mk h1
  have H2 := Aside0.mk h2
  have H3 := Aside0.mk h3
  have H4 := Aside0.mk h4
  have HW1 := Aside0.mk hw1
  obtain ⟨x0, x1, x2, x3, x4, x5⟩ := ov_cells h2
  clear h1 h2 h3 h4 h5 hlo hsz hw1 HS HB H
  go_wp2_with fail
  refine (done_calls (m := m) H1.out.rep HP.out.ok H1.out.bw (Kd.C_below HC.out H1.out.below) HCC.out HL.out).mono ?_
  rintro e w3 ⟨rfl, hr, hu⟩
  rw [← HPP.out] at hr ⊢
  have D3 := Aside0.mk (H1.out.step hr hu)
  have hop : w3.heap[w.heap.size]? = some (.cells (OV m A c) 45 (0, 0)) := (hu.block _ (blk_lt H2.out) (fun h_ => by have := HX.out _ h_; omega)).trans H2.out
  have hwas : w3.heap[w1.heap.size]? = some (.cells (SDV s a) 41 (0, 0)) := (hu.block _ (blk_lt H3.out) (fun h_ => by have := HX.out _ h_; have := HW1.out; omega)).trans H3.out
  have HOP := Aside0.mk hop
  have HWAS := Aside0.mk hwas
  have HSF := Aside0.mk (H4.out.upd hu (fun k hk => by have := HX.out _ hk; omega))
  clear hr hu hop hwas x0 x1 x2 x3 x4 x5 H1 H2 H3 H4
  go_wp2_with fail
  refine (sides_calls D3.out.rep HF'.out.ok).mono ?_
  rintro e w4 ⟨b, rfl, hs, hb⟩
  have HT := Aside0.mk hs
  have HB := Aside0.mk hb
  obtain ⟨t, htd⟩ : ∃ t, t = p'.1.sd := ⟨_, rfl⟩
  have HTD := Aside0.mk htd
  rw [← htd] at HT ⊢
  have HDN' := Aside0.mk (show t.dn = p'.1.dn by rw [htd]; rfl)
  clear hs hb htd
  go_upto_region 4 with fail
  refine gen_world (fun w5 => ∃ o', SV W w5 m A c s a t b w.heap.size w1.heap.size w4.heap.size o' g p'.1) ⟨_, (D3.out.keep HB.out).keep (bx w4 _), blk_below (blk_below HOP.out HB.out) (bx w4 _), blk_below (blk_below HWAS.out HB.out) (bx w4 _), heap_alloc_new w4 _, ((HSF.out.below HB.out).below (bx w4 _)).sc, (HT.out.below (bx w4 _)).sc⟩ ?_
  rintro w5 ⟨o', hsv⟩
  have HV := Aside0.mk hsv
  clear hsv D3 HOP HWAS HSF HT HB HX HW1
  obtain ⟨x0, x1, x2, x3, x4, x5⟩ := ov_cells HV.out.op
  obtain ⟨y0, y1, y2, y3, y4⟩ := sd_cells HV.out.was
  obtain ⟨z0, z1, z2, z3, z4⟩ := sd_cells HV.out.is
  obtain ⟨e, he⟩ : ∃ e, e = p'.2 := ⟨_, rfl⟩
  rw [← he] at HST ⊢
  have HCW := Aside0.mk (Kd.C_below HC.out HV.out.dk.below)
  clear he
  obtain ⟨r0, r1, d0, d1, dn⟩ := s
  obtain ⟨r0', r1', d0', d1', dn'⟩ := t
  have edn : dn = p.dn := HDN.out
  have edn' : dn' = p'.1.dn := HDN'.out
  dsimp only at y0 y1 y2 y3 y4 z0 z1 z2 z3 z4
  rcases HST.out with ⟨g1, g2, rfl, hf⟩ | ⟨g1, g2, rfl, k1, k2, hf⟩ | ⟨n1, n2, hf⟩
  · obtain rfl : dn = false := edn.trans g1
    obtain rfl : dn' = true := edn'.trans g2
    have HFE := Aside0.mk (show Fell m ⟨r0, r1, d0, d1, false⟩ ⟨r0', r1', d0', d1', true⟩ by rw [HSD.out, HTD.out]; exact hf)
    clear hf g1 g2 HST edn edn'
    go_wp2_with fail
    refine (fell_calls HFE.out HCW.out HCC.out HL.out HV.out.cs HV.out.ct).mono ?_
    rintro e w6 ⟨rfl, hb⟩
    have D6 := Aside0.mk (HV.out.dk.keep hb)
    clear hb x0 x1 x2 x3 x4 x5 y0 y1 y2 y3 y4 z0 z1 z2 z3 z4
    go_wp2
    go_ret
    exact ⟨rfl, _, D6.out⟩
  · obtain rfl : dn = false := edn.trans g1
    obtain rfl : dn' = false := edn'.trans g2
    have HFE := Aside0.mk (show Wrote m ⟨r0, r1, d0, d1, false⟩ ⟨r0', r1', d0', d1', false⟩ by rw [HSD.out, HTD.out]; exact hf)
    have HKK := Aside0.mk (show 1 ≤ m.kd ∧ m.kd ≤ 4 from ⟨k1, k2⟩)
    clear hf g1 g2 HST edn edn'
    have g1 : decide (1 ≤ m.kd) = true := decide_eq_true k1
    have g2 : decide (m.kd ≤ 4) = true := decide_eq_true k2
    clear k1 k2
    go_wp2_with fail
    refine (wrote_calls HFE.out HKK.out HCW.out HCC.out HL.out HV.out.cs HV.out.ct).mono ?_
    rintro e w6 ⟨rfl, hb⟩
    have D6 := Aside0.mk (HV.out.dk.keep hb)
    clear hb x0 x1 x2 x3 x4 x5 y0 y1 y2 y3 y4 z0 z1 z2 z3 z4
    go_wp2
    go_ret
    exact ⟨rfl, _, D6.out⟩
  · have HE0 := Aside0.mk (show d0' = d0 by have h_ := hf.d 0 (by omega); rw [← HTD.out, ← HSD.out] at h_; exact h_)
    have HE1 := Aside0.mk (show d1' = d1 by have h_ := hf.d 1 (by omega); rw [← HTD.out, ← HSD.out] at h_; exact h_)
    have hR : p.dn = false → r0' = r0 ∧ r1' = r1 := fun hd => by
      have h_ := hf.r hd 0 (by omega); have h2_ := hf.r hd 1 (by omega); rw [← HTD.out, ← HSD.out] at h_ h2_; exact ⟨h_, h2_⟩
    have hU : p.dn = true → p'.1.dn = false → m.kd = 9 ∧ r0' = d0' ∧ r1' = d1' := fun hd hu => by
      have h_ := (hf.up hd hu).2 0 (by omega); have h2_ := (hf.up hd hu).2 1 (by omega); rw [← HTD.out] at h_ h2_; exact ⟨(hf.up hd hu).1, h_, h2_⟩
    have HNE := Aside0.mk n2
    have HR0 : Aside0 (Rd w5 a.A0 a.c0 r0) := ⟨HV.out.cs.r0⟩
    have HR1 : Aside0 (Rd w5 a.A1 a.c1 r1) := ⟨HV.out.cs.r1⟩
    have HD0 : Aside0 (Rd w5 a.A2 a.c2 d0) := ⟨HV.out.cs.d0⟩
    have HD1 : Aside0 (Rd w5 a.A3 a.c3 d1) := ⟨HV.out.cs.d1⟩
    have HR0' : Aside0 (Rd w5 b.A0 b.c0 r0') := ⟨HV.out.ct.r0⟩
    have HR1' : Aside0 (Rd w5 b.A1 b.c1 r1') := ⟨HV.out.ct.r1⟩
    have HD0' : Aside0 (Rd w5 b.A2 b.c2 d0') := ⟨HV.out.ct.d0⟩
    have HD1' : Aside0 (Rd w5 b.A3 b.c3 d1') := ⟨HV.out.ct.d1⟩
    cases hd : p.dn with
    | false =>
      have hd' : p'.1.dn = false := by
        cases h_ : p'.1.dn with
        | false => rfl
        | true => exact absurd ⟨hd, h_⟩ n1
      have HRR := Aside0.mk (hR hd)
      obtain rfl : dn = false := edn.trans hd
      obtain rfl : dn' = false := edn'.trans hd'
      clear hf n1 n2 hR hU hd hd' HST edn edn'
      go_upto_region 6 with fail
      go_cut [42] (fun v wx => v = .bool false ∧ Aside0 (SV W wx m A c ⟨r0, r1, d0, d1, false⟩ a ⟨r0', r1', d0', d1', false⟩ b w.heap.size w1.heap.size w4.heap.size o' g p'.1))
      case first =>
        by_cases he : e = 0
        · subst he
          by_cases h1 : 1 ≤ m.kd
          · have g1 : decide (1 ≤ m.kd) = true := decide_eq_true h1
            have g2 : decide (m.kd ≤ 4) = false := decide_eq_false (fun h4 => HNE.out ⟨rfl, h1, h4⟩)
            clear h1
            go_wp2
            go_meet
            exact ⟨rfl, HV⟩
          · have g1 : decide (1 ≤ m.kd) = false := decide_eq_false h1
            clear h1
            go_wp2
            go_meet
            exact ⟨rfl, HV⟩
        · have g1 : (e == (0 : Int)) = false := by simpa using he
          clear he
          go_wp2
          go_meet
          exact ⟨rfl, HV⟩
      case rest =>
        obtain ⟨rfl, HV2⟩ := hcut
        clear x0 x1 x2 x3 x4 x5 y0 y1 y2 y3 y4 z0 z1 z2 z3 z4
        clear HV HR0 HR1 HD0 HD1 HR0' HR1' HD0' HD1' HNE
        go_wp2_with fail
        go_loopw [8] (fun i wr => ∃ k : Nat, k ≤ 2 ∧ i = .int .i64 (k : Int) ∧ Aside0 (SV W wr m A c ⟨r0, r1, d0, d1, false⟩ a ⟨r0', r1', d0', d1', false⟩ b w.heap.size w1.heap.size w4.heap.size o' g p'.1)) (fun i _ => 2 - (intOf i).toNat)
        case atStart => exact ⟨0, by omega, rfl, HV2⟩
        case round =>
          obtain ⟨k, hk, rfl, HV3⟩ := hrel
          clear HV2
          obtain ⟨x0, x1, x2, x3, x4, x5⟩ := ov_cells HV3.out.op
          obtain ⟨y0, y1, y2, y3, y4⟩ := sd_cells HV3.out.was
          obtain ⟨z0, z1, z2, z3, z4⟩ := sd_cells HV3.out.is
          dsimp only at y0 y1 y2 y3 y4 z0 z1 z2 z3 z4
          rcases (show k = 0 ∨ k = 1 ∨ k = 2 by omega) with rfl | rfl | rfl
          · have HDk : Aside0 (Rd _ a.A2 a.c2 d0) := ⟨HV3.out.cs.d0⟩
            have HDk' : Aside0 (Rd _ b.A2 b.c2 d0') := ⟨HV3.out.ct.d0⟩
            have HRk : Aside0 (Rd _ a.A0 a.c0 r0) := ⟨HV3.out.cs.r0⟩
            have HRk' : Aside0 (Rd _ b.A0 b.c0 r0') := ⟨HV3.out.ct.r0⟩
            go_wp2_with fail
            go_quiet ((go_at_call 20; first | exact Calls.quiet_of (equal_n HE0.out.symm rfl rfl (Kd.C_drewN HDk.out.C _) HDk.out.cap (Kd.C_drewN HDk'.out.C _) HDk'.out.cap HDk.out.len) | exact Calls.quiet_of (equal_n HRR.out.1.symm rfl rfl (Kd.C_drewN HRk.out.C _) HRk.out.cap (Kd.C_drewN HRk'.out.C _) HRk'.out.cap HRk.out.len)))
            go_wp2_with fail
            refine gen_world (fun wx => SV W wx m A c ⟨r0, r1, d0, d1, false⟩ a ⟨r0', r1', d0', d1', false⟩ b w.heap.size w1.heap.size w4.heap.size o' g p'.1) (HV3.out.next (by repeat (first | exact Below.refl _ _ | refine pw_below_drewN ?_ _))) ?_
            rintro w6 h6
            have HV6 := Aside0.mk h6
            clear x0 x1 x2 x3 x4 x5 y0 y1 y2 y3 y4 z0 z1 z2 z3 z4
            clear h6 HDk HDk' HRk HRk'
            obtain ⟨x0, x1, x2, x3, x4, x5⟩ := ov_cells HV6.out.op
            obtain ⟨y0, y1, y2, y3, y4⟩ := sd_cells HV6.out.was
            obtain ⟨z0, z1, z2, z3, z4⟩ := sd_cells HV6.out.is
            dsimp only at y0 y1 y2 y3 y4 z0 z1 z2 z3 z4
            have HDk : Aside0 (Rd _ a.A2 a.c2 d0) := ⟨HV6.out.cs.d0⟩
            have HDk' : Aside0 (Rd _ b.A2 b.c2 d0') := ⟨HV6.out.ct.d0⟩
            have HRk : Aside0 (Rd _ a.A0 a.c0 r0) := ⟨HV6.out.cs.r0⟩
            have HRk' : Aside0 (Rd _ b.A0 b.c0 r0') := ⟨HV6.out.ct.r0⟩
            go_quiet ((fail))
            go_wp2
            go_roundw
            case rel => exact ⟨1, by omega, by first | rfl | go_num, ⟨HV6.out.next (by repeat (first | exact Below.refl _ _ | refine pw_below_drewN ?_ _))⟩⟩
            case measure => simp [intOf]
          · have HDk : Aside0 (Rd _ a.A3 a.c3 d1) := ⟨HV3.out.cs.d1⟩
            have HDk' : Aside0 (Rd _ b.A3 b.c3 d1') := ⟨HV3.out.ct.d1⟩
            have HRk : Aside0 (Rd _ a.A1 a.c1 r1) := ⟨HV3.out.cs.r1⟩
            have HRk' : Aside0 (Rd _ b.A1 b.c1 r1') := ⟨HV3.out.ct.r1⟩
            go_wp2_with fail
            go_quiet ((go_at_call 20; first | exact Calls.quiet_of (equal_n HE1.out.symm rfl rfl (Kd.C_drewN HDk.out.C _) HDk.out.cap (Kd.C_drewN HDk'.out.C _) HDk'.out.cap HDk.out.len) | exact Calls.quiet_of (equal_n HRR.out.2.symm rfl rfl (Kd.C_drewN HRk.out.C _) HRk.out.cap (Kd.C_drewN HRk'.out.C _) HRk'.out.cap HRk.out.len)))
            go_wp2_with fail
            refine gen_world (fun wx => SV W wx m A c ⟨r0, r1, d0, d1, false⟩ a ⟨r0', r1', d0', d1', false⟩ b w.heap.size w1.heap.size w4.heap.size o' g p'.1) (HV3.out.next (by repeat (first | exact Below.refl _ _ | refine pw_below_drewN ?_ _))) ?_
            rintro w6 h6
            have HV6 := Aside0.mk h6
            clear x0 x1 x2 x3 x4 x5 y0 y1 y2 y3 y4 z0 z1 z2 z3 z4
            clear h6 HDk HDk' HRk HRk'
            obtain ⟨x0, x1, x2, x3, x4, x5⟩ := ov_cells HV6.out.op
            obtain ⟨y0, y1, y2, y3, y4⟩ := sd_cells HV6.out.was
            obtain ⟨z0, z1, z2, z3, z4⟩ := sd_cells HV6.out.is
            dsimp only at y0 y1 y2 y3 y4 z0 z1 z2 z3 z4
            have HDk : Aside0 (Rd _ a.A3 a.c3 d1) := ⟨HV6.out.cs.d1⟩
            have HDk' : Aside0 (Rd _ b.A3 b.c3 d1') := ⟨HV6.out.ct.d1⟩
            have HRk : Aside0 (Rd _ a.A1 a.c1 r1) := ⟨HV6.out.cs.r1⟩
            have HRk' : Aside0 (Rd _ b.A1 b.c1 r1') := ⟨HV6.out.ct.r1⟩
            go_quiet ((fail))
            go_wp2
            go_roundw
            case rel => exact ⟨2, by omega, by first | rfl | go_num, ⟨HV6.out.next (by repeat (first | exact Below.refl _ _ | refine pw_below_drewN ?_ _))⟩⟩
            case measure => simp [intOf]
          · clear x0 x1 x2 x3 x4 x5 y0 y1 y2 y3 y4 z0 z1 z2 z3 z4
            go_wp2_with fail
            go_ret
            exact ⟨rfl, _, HV3.out.dk⟩
    | true =>
      cases hd' : p'.1.dn with
      | false =>
        have HUU := Aside0.mk (hU hd hd')
        have k9 : (m.kd == (9 : Int)) = true := by simpa using HUU.out.1
        have k9' : (m.kd != (9 : Int)) = false := by simp [HUU.out.1]
        obtain rfl : dn = true := edn.trans hd
        obtain rfl : dn' = false := edn'.trans hd'
        clear hf n1 n2 hR hU hd hd' HST edn edn'
        go_upto_region 6 with fail
        go_cut [42] (fun v wx => v = .bool false ∧ Aside0 (SV W wx m A c ⟨r0, r1, d0, d1, true⟩ a ⟨r0', r1', d0', d1', false⟩ b w.heap.size w1.heap.size w4.heap.size o' g p'.1))
        case first =>
          by_cases he : e = 0
          · subst he
            by_cases h1 : 1 ≤ m.kd
            · have g1 : decide (1 ≤ m.kd) = true := decide_eq_true h1
              have g2 : decide (m.kd ≤ 4) = false := decide_eq_false (fun h4 => HNE.out ⟨rfl, h1, h4⟩)
              clear h1
              go_wp2
              go_meet
              exact ⟨rfl, HV⟩
            · have g1 : decide (1 ≤ m.kd) = false := decide_eq_false h1
              clear h1
              go_wp2
              go_meet
              exact ⟨rfl, HV⟩
          · have g1 : (e == (0 : Int)) = false := by simpa using he
            clear he
            go_wp2
            go_meet
            exact ⟨rfl, HV⟩
        case rest =>
          obtain ⟨rfl, HV2⟩ := hcut
          clear x0 x1 x2 x3 x4 x5 y0 y1 y2 y3 y4 z0 z1 z2 z3 z4
          clear HV HR0 HR1 HD0 HD1 HR0' HR1' HD0' HD1' HNE
          go_wp2_with fail
          go_loopw [8] (fun i wr => ∃ k : Nat, k ≤ 2 ∧ i = .int .i64 (k : Int) ∧ Aside0 (SV W wr m A c ⟨r0, r1, d0, d1, true⟩ a ⟨r0', r1', d0', d1', false⟩ b w.heap.size w1.heap.size w4.heap.size o' g p'.1)) (fun i _ => 2 - (intOf i).toNat)
          case atStart => exact ⟨0, by omega, rfl, HV2⟩
          case round =>
            obtain ⟨k, hk, rfl, HV3⟩ := hrel
            clear HV2
            obtain ⟨x0, x1, x2, x3, x4, x5⟩ := ov_cells HV3.out.op
            obtain ⟨y0, y1, y2, y3, y4⟩ := sd_cells HV3.out.was
            obtain ⟨z0, z1, z2, z3, z4⟩ := sd_cells HV3.out.is
            dsimp only at y0 y1 y2 y3 y4 z0 z1 z2 z3 z4
            rcases (show k = 0 ∨ k = 1 ∨ k = 2 by omega) with rfl | rfl | rfl
            · have HDk : Aside0 (Rd _ a.A2 a.c2 d0) := ⟨HV3.out.cs.d0⟩
              have HDk' : Aside0 (Rd _ b.A2 b.c2 d0') := ⟨HV3.out.ct.d0⟩
              have HRk : Aside0 (Rd _ a.A0 a.c0 r0) := ⟨HV3.out.cs.r0⟩
              have HRk' : Aside0 (Rd _ b.A0 b.c0 r0') := ⟨HV3.out.ct.r0⟩
              go_wp2_with fail
              go_quiet ((go_at_call 20; first | exact Calls.quiet_of (equal_n HE0.out.symm rfl rfl (Kd.C_drewN HDk.out.C _) HDk.out.cap (Kd.C_drewN HDk'.out.C _) HDk'.out.cap HDk.out.len)))
              go_wp2_with fail
              refine gen_world (fun wx => SV W wx m A c ⟨r0, r1, d0, d1, true⟩ a ⟨r0', r1', d0', d1', false⟩ b w.heap.size w1.heap.size w4.heap.size o' g p'.1) (HV3.out.next (by repeat (first | exact Below.refl _ _ | refine pw_below_drewN ?_ _))) ?_
              rintro w6 h6
              have HV6 := Aside0.mk h6
              clear x0 x1 x2 x3 x4 x5 y0 y1 y2 y3 y4 z0 z1 z2 z3 z4
              clear h6 HDk HDk' HRk HRk'
              obtain ⟨x0, x1, x2, x3, x4, x5⟩ := ov_cells HV6.out.op
              obtain ⟨y0, y1, y2, y3, y4⟩ := sd_cells HV6.out.was
              obtain ⟨z0, z1, z2, z3, z4⟩ := sd_cells HV6.out.is
              dsimp only at y0 y1 y2 y3 y4 z0 z1 z2 z3 z4
              have HDk : Aside0 (Rd _ a.A2 a.c2 d0) := ⟨HV6.out.cs.d0⟩
              have HDk' : Aside0 (Rd _ b.A2 b.c2 d0') := ⟨HV6.out.ct.d0⟩
              have HRk : Aside0 (Rd _ a.A0 a.c0 r0) := ⟨HV6.out.cs.r0⟩
              have HRk' : Aside0 (Rd _ b.A0 b.c0 r0') := ⟨HV6.out.ct.r0⟩
              go_quiet ((go_at_call 20; exact Calls.quiet_of (equal_n HUU.out.2.1 rfl rfl (Kd.C_drewN HRk'.out.C _) HRk'.out.cap (Kd.C_drewN HDk'.out.C _) HDk'.out.cap HRk'.out.len)))
              go_wp2
              go_roundw
              case rel => exact ⟨1, by omega, by first | rfl | go_num, ⟨HV6.out.next (by repeat (first | exact Below.refl _ _ | refine pw_below_drewN ?_ _))⟩⟩
              case measure => simp [intOf]
            · have HDk : Aside0 (Rd _ a.A3 a.c3 d1) := ⟨HV3.out.cs.d1⟩
              have HDk' : Aside0 (Rd _ b.A3 b.c3 d1') := ⟨HV3.out.ct.d1⟩
              have HRk : Aside0 (Rd _ a.A1 a.c1 r1) := ⟨HV3.out.cs.r1⟩
              have HRk' : Aside0 (Rd _ b.A1 b.c1 r1') := ⟨HV3.out.ct.r1⟩
              go_wp2_with fail
              go_quiet ((go_at_call 20; first | exact Calls.quiet_of (equal_n HE1.out.symm rfl rfl (Kd.C_drewN HDk.out.C _) HDk.out.cap (Kd.C_drewN HDk'.out.C _) HDk'.out.cap HDk.out.len)))
              go_wp2_with fail
              refine gen_world (fun wx => SV W wx m A c ⟨r0, r1, d0, d1, true⟩ a ⟨r0', r1', d0', d1', false⟩ b w.heap.size w1.heap.size w4.heap.size o' g p'.1) (HV3.out.next (by repeat (first | exact Below.refl _ _ | refine pw_below_drewN ?_ _))) ?_
              rintro w6 h6
              have HV6 := Aside0.mk h6
              clear x0 x1 x2 x3 x4 x5 y0 y1 y2 y3 y4 z0 z1 z2 z3 z4
              clear h6 HDk HDk' HRk HRk'
              obtain ⟨x0, x1, x2, x3, x4, x5⟩ := ov_cells HV6.out.op
              obtain ⟨y0, y1, y2, y3, y4⟩ := sd_cells HV6.out.was
              obtain ⟨z0, z1, z2, z3, z4⟩ := sd_cells HV6.out.is
              dsimp only at y0 y1 y2 y3 y4 z0 z1 z2 z3 z4
              have HDk : Aside0 (Rd _ a.A3 a.c3 d1) := ⟨HV6.out.cs.d1⟩
              have HDk' : Aside0 (Rd _ b.A3 b.c3 d1') := ⟨HV6.out.ct.d1⟩
              have HRk : Aside0 (Rd _ a.A1 a.c1 r1) := ⟨HV6.out.cs.r1⟩
              have HRk' : Aside0 (Rd _ b.A1 b.c1 r1') := ⟨HV6.out.ct.r1⟩
              go_quiet ((go_at_call 20; exact Calls.quiet_of (equal_n HUU.out.2.2 rfl rfl (Kd.C_drewN HRk'.out.C _) HRk'.out.cap (Kd.C_drewN HDk'.out.C _) HDk'.out.cap HRk'.out.len)))
              go_wp2
              go_roundw
              case rel => exact ⟨2, by omega, by first | rfl | go_num, ⟨HV6.out.next (by repeat (first | exact Below.refl _ _ | refine pw_below_drewN ?_ _))⟩⟩
              case measure => simp [intOf]
            · clear x0 x1 x2 x3 x4 x5 y0 y1 y2 y3 y4 z0 z1 z2 z3 z4
              go_wp2_with fail
              go_ret
              exact ⟨rfl, _, HV3.out.dk⟩
      | true =>
        obtain rfl : dn = true := edn.trans hd
        obtain rfl : dn' = true := edn'.trans hd'
        clear hf n1 n2 hR hU hd hd' HST edn edn'
        go_upto_region 6 with fail
        go_cut [42] (fun v wx => v = .bool false ∧ Aside0 (SV W wx m A c ⟨r0, r1, d0, d1, true⟩ a ⟨r0', r1', d0', d1', true⟩ b w.heap.size w1.heap.size w4.heap.size o' g p'.1))
        case first =>
          by_cases he : e = 0
          · subst he
            by_cases h1 : 1 ≤ m.kd
            · have g1 : decide (1 ≤ m.kd) = true := decide_eq_true h1
              have g2 : decide (m.kd ≤ 4) = false := decide_eq_false (fun h4 => HNE.out ⟨rfl, h1, h4⟩)
              clear h1
              go_wp2
              go_meet
              exact ⟨rfl, HV⟩
            · have g1 : decide (1 ≤ m.kd) = false := decide_eq_false h1
              clear h1
              go_wp2
              go_meet
              exact ⟨rfl, HV⟩
          · have g1 : (e == (0 : Int)) = false := by simpa using he
            clear he
            go_wp2
            go_meet
            exact ⟨rfl, HV⟩
        case rest =>
          obtain ⟨rfl, HV2⟩ := hcut
          clear x0 x1 x2 x3 x4 x5 y0 y1 y2 y3 y4 z0 z1 z2 z3 z4
          clear HV HR0 HR1 HD0 HD1 HR0' HR1' HD0' HD1' HNE
          go_wp2_with fail
          go_loopw [8] (fun i wr => ∃ k : Nat, k ≤ 2 ∧ i = .int .i64 (k : Int) ∧ Aside0 (SV W wr m A c ⟨r0, r1, d0, d1, true⟩ a ⟨r0', r1', d0', d1', true⟩ b w.heap.size w1.heap.size w4.heap.size o' g p'.1)) (fun i _ => 2 - (intOf i).toNat)
          case atStart => exact ⟨0, by omega, rfl, HV2⟩
          case round =>
            obtain ⟨k, hk, rfl, HV3⟩ := hrel
            clear HV2
            obtain ⟨x0, x1, x2, x3, x4, x5⟩ := ov_cells HV3.out.op
            obtain ⟨y0, y1, y2, y3, y4⟩ := sd_cells HV3.out.was
            obtain ⟨z0, z1, z2, z3, z4⟩ := sd_cells HV3.out.is
            dsimp only at y0 y1 y2 y3 y4 z0 z1 z2 z3 z4
            rcases (show k = 0 ∨ k = 1 ∨ k = 2 by omega) with rfl | rfl | rfl
            · have HDk : Aside0 (Rd _ a.A2 a.c2 d0) := ⟨HV3.out.cs.d0⟩
              have HDk' : Aside0 (Rd _ b.A2 b.c2 d0') := ⟨HV3.out.ct.d0⟩
              have HRk : Aside0 (Rd _ a.A0 a.c0 r0) := ⟨HV3.out.cs.r0⟩
              have HRk' : Aside0 (Rd _ b.A0 b.c0 r0') := ⟨HV3.out.ct.r0⟩
              go_wp2_with fail
              go_quiet ((go_at_call 20; first | exact Calls.quiet_of (equal_n HE0.out.symm rfl rfl (Kd.C_drewN HDk.out.C _) HDk.out.cap (Kd.C_drewN HDk'.out.C _) HDk'.out.cap HDk.out.len)))
              go_wp2_with fail
              refine gen_world (fun wx => SV W wx m A c ⟨r0, r1, d0, d1, true⟩ a ⟨r0', r1', d0', d1', true⟩ b w.heap.size w1.heap.size w4.heap.size o' g p'.1) (HV3.out.next (by repeat (first | exact Below.refl _ _ | refine pw_below_drewN ?_ _))) ?_
              rintro w6 h6
              have HV6 := Aside0.mk h6
              clear x0 x1 x2 x3 x4 x5 y0 y1 y2 y3 y4 z0 z1 z2 z3 z4
              clear h6 HDk HDk' HRk HRk'
              obtain ⟨x0, x1, x2, x3, x4, x5⟩ := ov_cells HV6.out.op
              obtain ⟨y0, y1, y2, y3, y4⟩ := sd_cells HV6.out.was
              obtain ⟨z0, z1, z2, z3, z4⟩ := sd_cells HV6.out.is
              dsimp only at y0 y1 y2 y3 y4 z0 z1 z2 z3 z4
              have HDk : Aside0 (Rd _ a.A2 a.c2 d0) := ⟨HV6.out.cs.d0⟩
              have HDk' : Aside0 (Rd _ b.A2 b.c2 d0') := ⟨HV6.out.ct.d0⟩
              have HRk : Aside0 (Rd _ a.A0 a.c0 r0) := ⟨HV6.out.cs.r0⟩
              have HRk' : Aside0 (Rd _ b.A0 b.c0 r0') := ⟨HV6.out.ct.r0⟩
              go_quiet ((fail))
              go_wp2
              go_roundw
              case rel => exact ⟨1, by omega, by first | rfl | go_num, ⟨HV6.out.next (by repeat (first | exact Below.refl _ _ | refine pw_below_drewN ?_ _))⟩⟩
              case measure => simp [intOf]
            · have HDk : Aside0 (Rd _ a.A3 a.c3 d1) := ⟨HV3.out.cs.d1⟩
              have HDk' : Aside0 (Rd _ b.A3 b.c3 d1') := ⟨HV3.out.ct.d1⟩
              have HRk : Aside0 (Rd _ a.A1 a.c1 r1) := ⟨HV3.out.cs.r1⟩
              have HRk' : Aside0 (Rd _ b.A1 b.c1 r1') := ⟨HV3.out.ct.r1⟩
              go_wp2_with fail
              go_quiet ((go_at_call 20; first | exact Calls.quiet_of (equal_n HE1.out.symm rfl rfl (Kd.C_drewN HDk.out.C _) HDk.out.cap (Kd.C_drewN HDk'.out.C _) HDk'.out.cap HDk.out.len)))
              go_wp2_with fail
              refine gen_world (fun wx => SV W wx m A c ⟨r0, r1, d0, d1, true⟩ a ⟨r0', r1', d0', d1', true⟩ b w.heap.size w1.heap.size w4.heap.size o' g p'.1) (HV3.out.next (by repeat (first | exact Below.refl _ _ | refine pw_below_drewN ?_ _))) ?_
              rintro w6 h6
              have HV6 := Aside0.mk h6
              clear x0 x1 x2 x3 x4 x5 y0 y1 y2 y3 y4 z0 z1 z2 z3 z4
              clear h6 HDk HDk' HRk HRk'
              obtain ⟨x0, x1, x2, x3, x4, x5⟩ := ov_cells HV6.out.op
              obtain ⟨y0, y1, y2, y3, y4⟩ := sd_cells HV6.out.was
              obtain ⟨z0, z1, z2, z3, z4⟩ := sd_cells HV6.out.is
              dsimp only at y0 y1 y2 y3 y4 z0 z1 z2 z3 z4
              have HDk : Aside0 (Rd _ a.A3 a.c3 d1) := ⟨HV6.out.cs.d1⟩
              have HDk' : Aside0 (Rd _ b.A3 b.c3 d1') := ⟨HV6.out.ct.d1⟩
              have HRk : Aside0 (Rd _ a.A1 a.c1 r1) := ⟨HV6.out.cs.r1⟩
              have HRk' : Aside0 (Rd _ b.A1 b.c1 r1') := ⟨HV6.out.ct.r1⟩
              go_quiet ((fail))
              go_wp2
              go_roundw
              case rel => exact ⟨2, by omega, by first | rfl | go_num, ⟨HV6.out.next (by repeat (first | exact Below.refl _ _ | refine pw_below_drewN ?_ _))⟩⟩
              case measure => simp [intOf]
            · clear x0 x1 x2 x3 x4 x5 y0 y1 y2 y3 y4 z0 z1 z2 z3 z4
              go_wp2_with fail
              go_ret
              exact ⟨rfl, _, HV3.out.dk⟩
end
end Go.Proofs.Yticokogggepfoaa.D
