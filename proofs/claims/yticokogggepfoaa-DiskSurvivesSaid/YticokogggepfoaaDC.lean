/- The program's disk falls. No condition but what the disk holds. -/
import Derived.Test.YticokogggepfoaaDB
import Derived.StillTailTactics
import Derived.BigRegion
namespace Go.Proofs.Yticokogggepfoaa.D
open Go.RowKit Go.Proofs.YticokogggepfoaaW.PrintWords Go.Proofs.YticokogggepfoaaW.PrintLast Go.Proofs.YticokogggepfoaaW.PrintMore
attribute [local go_sem] max2_int min2_int max_two min_two max_three min_three max_four min_four
set_option linter.unusedVariables false
set_option linter.unusedSimpArgs false
set_option maxRecDepth 100000
def PM.f0 (p : PM) (keep : Int) : PM := { p with b0 := p.b0.take (min p.b0.length (p.s0 + keep.toNat)), s0 := min p.b0.length (p.s0 + keep.toNat) }
def PM.f1 (p : PM) (keep : Int) : PM := { p with b1 := p.b1.take (min p.b1.length (p.s1 + keep.toNat)), s1 := min p.b1.length (p.s1 + keep.toNat) }
def PM.fk (p : PM) (keep : Int) : Nat → PM
  | 0 => p
  | 1 => p.f0 keep
  | _ => (p.f0 keep).f1 keep
def PM.fall (p : PM) : PM := match p.ar with
  | [] => p
  | a :: r => ({ p with ar := r, dn := true } : PM).fk a.2 2
theorem Kd.R_slice_len {α : Type} {d : Kd α} {e base : Nat} {w : World} {ok : Nat → Prop} {v : Value} {xs : List α} (h : d.R e w base ok v xs) : ∃ A c, v = .slice A xs.length c ∧ xs.length ≤ c := by
  obtain ⟨A, c, rfl, h1, _⟩ := Kd.R_reads h
  exact ⟨A, c, rfl, h1⟩
theorem RepV.drew {W : World} {B g : Nat} {ok : Nat → Prop} {p : PM} {v0 v1 va : Value} (h : RepV W B ok g p v0 v1 va) : RepV W.drew B ok g p v0 v1 va := h.upd (S := fun _ => False) ((Upd.refl _ _).drew) (fun _ _ _ hk => hk)
theorem RepV.set_s0' {W : World} {B g : Nat} {ok : Nat → Prop} {p : PM} {v0 v1 va : Value} (h : RepV W B ok g p v0 v1 va) {x : Int} {m : Nat} (hx : x = (m : Int)) : RepV (W.setCell ⟨g, 1, none⟩ (.int .i64 x)) B ok g { p with s0 := m } v0 v1 va := by subst hx; exact h.set_s0 m
theorem RepV.set_s1' {W : World} {B g : Nat} {ok : Nat → Prop} {p : PM} {v0 v1 va : Value} (h : RepV W B ok g p v0 v1 va) {x : Int} {m : Nat} (hx : x = (m : Int)) : RepV (W.setCell ⟨g, 3, none⟩ (.int .i64 x)) B ok g { p with s1 := m } v0 v1 va := by subst hx; exact h.set_s1 m
theorem gen_world {P : Program} {c : Code} {Q : Exit → Act → World → Prop} {a : Act} {W : World} (F : World → Prop) (h0 : F W) (h : ∀ W2, F W2 → c.wp P Q a W2) : c.wp P Q a W := h W h0
theorem fk_len (p : PM) (keep : Int) : ((p.fk keep 0).b0 = p.b0 ∧ (p.fk keep 0).s0 = p.s0) ∧ ((p.fk keep 1).b1 = p.b1 ∧ (p.fk keep 1).s1 = p.s1) := ⟨⟨rfl, rfl⟩, rfl, rfl⟩
set_option maxHeartbeats 2000000 in
theorem fall_calls {W : World} {B g : Nat} {ok : Nat → Prop} {p : PM} {a : Int × Int} {r : List (Int × Int)} (h : Rep W B ok g p) (hp : p.ok0) (har : p.ar = a :: r) :
    Calls Try.prog 34 #[.pointer (some ⟨g, 0, none⟩)] W fun e W' => e = .returned (.int .i64 51) ∧ Rep W' B ok g p.fall ∧ Upd W W' ok := by
  obtain ⟨v0, v1, va, h⟩ := h
  have e : p.fall = ({ p with ar := r, dn := true } : PM).fk a.2 2 := by unfold PM.fall; rw [har]
  rw [e]; clear e
  obtain ⟨c0, c1, c2, c3, c4, c5, c6⟩ := dc_cells h.blk
  have hf := blk_frozen h.blk
  obtain ⟨ga, o, c, rfl, hb, hlt, cells, hcells⟩ := Kd.Q_form h.ra (by rw [har]; simp)
  have hra := h.ra
  rw [har] at hra c4
  obtain ⟨d0, d1, df, dset⟩ := cr_cells hra
  have hdrop := Kd.Q_drop hra (k := 1) (by simp)
  have hcl := (Kd.Q_reads' hra).2.1
  have ha := hp.hk a (by rw [har]; simp)
  have a3 := ha.1
  have a4 := ha.2
  obtain ⟨al, ak⟩ := a
  obtain ⟨K, rfl⟩ : ∃ K : Nat, ak = (K : Int) := Int.eq_ofNat_of_zero_le a3
  dsimp only at a3 a4
  have hlen : 0 < ((al, (K : Int)) :: r).length := by simp
  have H := Aside0.mk h
  have HR := Aside0.mk hdrop
  have HP := Aside0.mk hp
  obtain ⟨p1, hp1⟩ : ∃ p1 : PM, p1 = { p with ar := r, dn := true } := ⟨_, rfl⟩
  have HP1 := Aside0.mk hp1
  rw [← hp1]
  have l0 : p1.b0.length ≤ 16777216 := by rw [hp1]; exact hp.l0
  have l1 : p1.b1.length ≤ 16777216 := by rw [hp1]; exact hp.l1
  have t0 : p1.s0 ≤ p1.b0.length := by rw [hp1]; exact hp.h0
  have t1 : p1.s1 ≤ p1.b1.length := by rw [hp1]; exact hp.h1
  clear h hra c0 c1 c2 c3 c6 hp ha hb hlt hcells dset har d0 df hdrop hp1
  by_cases hc1 : c = 1
  all_goals
    go_enter Try.func34, Try.ntmps34
    go_wp2
    go_loopw [24] (fun i wr => ∃ k : Nat, k ≤ 2 ∧ i = .int .i64 k ∧ Aside0 (Rep wr B ok g (p1.fk K k)) ∧ Aside0 (Upd W wr ok)) (fun i _ => 2 - (intOf i).toNat)
    case atStart =>
      refine ⟨0, by omega, rfl, ?_, ⟨((Upd.refl _ _).setCell (fun _ => H.out.okg) _).setCell (fun _ => H.out.okg) _⟩⟩
      rw [HP1.out]
      exact ⟨_, _, _, (H.out.set_ar _ r (by have h_ := HR.out; first | simpa [hc1, Addr.add, show Cr.sz = 2 from rfl] using h_ | (simp only [hc1, if_false, Option.map_some, add_at] at h_; exact h_))).set_dn true⟩
    case round =>
      obtain ⟨k, hk, rfl, HK, HU⟩ := hrel
      clear c4 d1 c5 hf
      obtain ⟨u0, u1, ua, hh⟩ := HK.out
      obtain ⟨c0, c1, c2, c3, c4, c5, c6⟩ := dc_cells hh.blk
      have hf := blk_frozen hh.blk
      have HH := Aside0.mk hh
      obtain ⟨A0, n0, rfl, hn0⟩ := Kd.R_slice_len hh.r0
      obtain ⟨A1, n1, rfl, hn1⟩ := Kd.R_slice_len hh.r1
      clear hh HK
      rcases (show k = 0 ∨ k = 1 ∨ k = 2 by omega) with rfl | rfl | rfl
      · simp only [PM.fk] at c0 c1 c2 c3 c4 c5 c6 hn0 hn1 HH
        clear c2 c3 c4 c5 c6
        go_wp2
        go_still_tail 15, (by kernel_rfl)
        go_wp2
        all_goals
          refine gen_world (fun w2 => RepV w2 B ok g { p1 with s0 := min p1.b0.length (p1.s0 + K) } (.slice A0 p1.b0.length n0) (.slice A1 p1.b1.length n1) ua ∧ Upd W w2 ok) ⟨?_, ?_⟩ ?_
          · exact (HH.out.set_s0' (by omega)).drew
          · exact (HU.out.setCell (fun _ => HH.out.okg) _).drew
          rintro w2 ⟨hh2, hu2⟩
          obtain ⟨c0, c1, c2, c3, c4, c5, c6⟩ := dc_cells hh2.blk
          have hf2 := blk_frozen hh2.blk
          dsimp only at c0 c1
          have hm1 : min p1.b0.length (p1.s0 + K) ≤ p1.b0.length := Nat.min_le_left _ _
          obtain ⟨m, hm⟩ : ∃ m, m = min p1.b0.length (p1.s0 + K) := ⟨_, rfl⟩
          have HM := Aside0.mk hm
          rw [← hm] at c1 hh2 hm1
          have HH2 := Aside0.mk hh2
          obtain ⟨i0_, hi0_, _, _, _⟩ := info_parts G.info5
          have hcut := cut_to (P := Try.prog) 28 5 .i64 Try.underlying28 hi0_ A0 p1.b0.length n0 (m : Int) (by omega) (by omega) hn0
          rw [Int.toNat_natCast] at hcut
          clear hi0_
          have HU2 := Aside0.mk hu2
          clear hf hm hh2 hu2 c2 c3 c4 c5 c6
          go_still_tail 12, (by kernel_rfl)
          go_wp2
          all_goals
            go_roundw
            case rel =>
              refine ⟨1, by omega, by first | rfl | go_num, ?_, ?_⟩
              · have e : p1.fk K 1 = { p1 with b0 := p1.b0.take m, s0 := m } := by rw [HM.out]; rfl
                rw [e]
                exact ⟨⟨_, _, _, by repeat (first | exact HH2.out.cut0 m hm1 | apply RepV.drew)⟩⟩
              · exact ⟨by repeat (first | exact HU2.out.setCell (fun _ => HH2.out.okg) _ | apply Upd.drew)⟩
            case measure => simp [intOf]
      · simp only [PM.fk] at c0 c1 c2 c3 c4 c5 c6 hn0 hn1 HH
        obtain ⟨p2, hp2⟩ : ∃ p2 : PM, p2 = p1.f0 K := ⟨_, rfl⟩
        have HP2 := Aside0.mk hp2
        have m0 : p2.s1 ≤ p2.b1.length := by rw [hp2]; exact t1
        have m1 : p2.b1.length ≤ 16777216 := by rw [hp2]; exact l1
        rw [← hp2] at c0 c1 c2 c3 hn0 hn1 HH
        clear hp2
        clear c0 c1 c4 c5 c6
        go_wp2
        go_still_tail 15, (by kernel_rfl)
        go_wp2
        all_goals
          refine gen_world (fun w2 => RepV w2 B ok g { p2 with s1 := min p2.b1.length (p2.s1 + K) } (.slice A0 p2.b0.length n0) (.slice A1 p2.b1.length n1) ua ∧ Upd W w2 ok) ⟨?_, ?_⟩ ?_
          · exact (HH.out.set_s1' (by omega)).drew
          · exact (HU.out.setCell (fun _ => HH.out.okg) _).drew
          rintro w2 ⟨hh2, hu2⟩
          obtain ⟨c0, c1, c2, c3, c4, c5, c6⟩ := dc_cells hh2.blk
          have hf2 := blk_frozen hh2.blk
          dsimp only at c2 c3
          have hm1 : min p2.b1.length (p2.s1 + K) ≤ p2.b1.length := Nat.min_le_left _ _
          obtain ⟨m, hm⟩ : ∃ m, m = min p2.b1.length (p2.s1 + K) := ⟨_, rfl⟩
          have HM := Aside0.mk hm
          rw [← hm] at c3 hh2 hm1
          have HH2 := Aside0.mk hh2
          obtain ⟨i0_, hi0_, _, _, _⟩ := info_parts G.info5
          have hcut := cut_to (P := Try.prog) 28 5 .i64 Try.underlying28 hi0_ A1 p2.b1.length n1 (m : Int) (by omega) (by omega) hn1
          rw [Int.toNat_natCast] at hcut
          clear hi0_
          have HU2 := Aside0.mk hu2
          clear hf hm hh2 hu2 c0 c1 c4 c5 c6
          go_still_tail 12, (by kernel_rfl)
          go_wp2
          all_goals
            go_roundw
            case rel =>
              refine ⟨2, by omega, by first | rfl | go_num, ?_, ?_⟩
              · have e : p1.fk K 2 = { p2 with b1 := p2.b1.take m, s1 := m } := by rw [HM.out, HP2.out]; rfl
                rw [e]
                exact ⟨⟨_, _, _, by repeat (first | exact HH2.out.cut1 m hm1 | apply RepV.drew)⟩⟩
              · exact ⟨by repeat (first | exact HU2.out.setCell (fun _ => HH2.out.okg) _ | apply Upd.drew)⟩
            case measure => simp [intOf]
      · clear c0 c1 c2 c3 c4 c5 c6 hf hn0 hn1
        go_wp2
        go_ret
        exact ⟨rfl, ⟨_, _, _, HH.out⟩, HU.out⟩
end Go.Proofs.Yticokogggepfoaa.D
