/- Rooms, and what is handed in of each: two rows that share their byte strings' blocks. turned, of what was handed in first. No condition but its bulk. FrameJoins: the walk. No condition but the payloads' bytes and bulk, and the package's table. Printed by mk_joins.py. No condition but what is said. -/
import Derived.Test.YtgfjmpnlkjocaaaDoorFE
import Derived.Test.YtgfjmpnlkjocaaaDoorFJ
import Derived.Deep.CutBlock
namespace Go.Proofs.YtgfjmpnlkjocaaaDoor.J
open Go.RowKit Go.Proofs.YtgfjmpnlkjocaaaDoorW.PrintWords Go.Proofs.YtgfjmpnlkjocaaaDoorW.PrintLast Go.Proofs.YtgfjmpnlkjocaaaDoorW.PrintMore
attribute [local go_sem] max2_int min2_int max_two min_two max_three min_three max_four min_four
set_option linter.unusedVariables false
set_option linter.unusedSimpArgs false
set_option maxRecDepth 100000
/-- Rooms (own 1), and of each its first bytes (own 2); the byte string of number i has the blocks 3 + i. -/
structure RM (w : World) (N : Nat) (own : Nat → Nat) (vr vm : Value) (rs ms : List (List Int)) : Prop where
  len : ms.length = rs.length
  row : ∃ rr rm : List (List Value), rr.length = rs.length ∧ rm.length = rs.length ∧ Kd.R (Kd.raw 1) 23 w N (fun k => own k = 1) vr rr ∧ Kd.R (Kd.raw 1) 23 w N (fun k => own k = 2) vm rm ∧
    ∀ (i : Nat) (r m : List Int), rs[i]? = some r → ms[i]? = some m → m.length ≤ r.length ∧ r.take m.length = m ∧ ∃ A c, rr[i]? = some ([.slice A r.length c] : List Value) ∧ rm[i]? = some ([.slice A m.length c] : List Value) ∧ Kd.R By 5 w N (fun k => own k = 3 + i) (.slice A r.length c) r
  lt : ∀ k, own k ≠ 0 → k < w.heap.size
section
variable {w w' : World} {N : Nat} {own : Nat → Nat} {vr vm : Value} {rs ms : List (List Int)}
theorem RM.nil (w : World) (N : Nat) : RM w N (fun _ => 0) (.slice none 0 0) (.slice none 0 0) [] [] := ⟨rfl, ⟨[], [], rfl, rfl, Kd.R_nil _ _ _ _ _, Kd.R_nil _ _ _ _ _, fun i r m hi => by simp at hi⟩, fun k hk => absurd rfl hk⟩
theorem RM.next (h : RM w N own vr vm rs ms) (hb : Below w.heap.size w w') : RM w' N own vr vm rs ms := by
  obtain ⟨rr, rm, e1, e2, h1, h2, hx⟩ := h.row
  refine ⟨h.len, ⟨rr, rm, e1, e2, Kd.R_step h1 (fun k _ hlt => hb.block k hlt), Kd.R_step h2 (fun k _ hlt => hb.block k hlt), fun i r m hi hm => ?_⟩, fun k hk => Nat.lt_of_lt_of_le (h.lt k hk) hb.size⟩
  obtain ⟨q1, q2, A, c, q3, q4, q5⟩ := hx i r m hi hm
  exact ⟨q1, q2, A, c, q3, q4, Kd.R_step q5 (fun k _ hlt => hb.block k hlt)⟩
theorem RM.slices (h : RM w N own vr vm rs ms) : ∃ Ar cr Am cm, vr = .slice Ar rs.length cr ∧ vm = .slice Am ms.length cm ∧ rs.length ≤ cr ∧ ms.length ≤ cm := by
  obtain ⟨rr, rm, e1, e2, h1, h2, hx⟩ := h.row
  obtain ⟨Ar, cr, rfl, h3⟩ := rsl h1
  obtain ⟨Am, cm, rfl, h4⟩ := rsl h2
  exact ⟨Ar, cr, Am, cm, by rw [e1], by rw [e2, h.len], by omega, by rw [h.len]; omega⟩
/-- The rooms' row, read. -/
theorem RM.rooms {A : Option Addr} {n c : Nat} (h : RM w N own (.slice A n c) vm rs ms) : Kd.C (Kd.slice 5 By) w A rs.length rs := by
  obtain ⟨rr, rm, e1, e2, h1, h2, hx⟩ := h.row
  obtain ⟨_, _, hC⟩ := Kd.R_reads' h1
  rw [e1] at hC
  refine ⟨rfl, hC.2.1, fun hp => ?_⟩
  obtain ⟨ad, ha, hcell⟩ := hC.2.2 hp
  refine ⟨ad, ha, fun j r hj => ?_⟩
  have hjl := (List.getElem?_eq_some_iff.1 hj).1
  obtain ⟨q1, q2, B, b, q3, q4, q5⟩ := hx j r (ms[j]'(by rw [h.len]; exact hjl)) hj (List.getElem?_eq_getElem _)
  obtain ⟨cs, hcl, ⟨rfl, _, _⟩, hcc⟩ := hcell j _ q3
  obtain ⟨_, hb, hCB⟩ := Kd.R_reads' q5
  exact ⟨_, hcl, ⟨B, b, rfl, hb, hCB⟩, hcc⟩
/-- The row of what is handed in, read. -/
theorem RM.mine {A : Option Addr} {n c : Nat} (h : RM w N own vr (.slice A n c) rs ms) : Kd.C (Kd.slice 5 By) w A ms.length ms := by
  obtain ⟨rr, rm, e1, e2, h1, h2, hx⟩ := h.row
  obtain ⟨_, _, hC⟩ := Kd.R_reads' h2
  rw [e2, ← h.len] at hC
  refine ⟨rfl, hC.2.1, fun hp => ?_⟩
  obtain ⟨ad, ha, hcell⟩ := hC.2.2 hp
  refine ⟨ad, ha, fun j m hj => ?_⟩
  have hjl := (List.getElem?_eq_some_iff.1 hj).1
  obtain ⟨q1, q2, B, b, q3, q4, q5⟩ := hx j (rs[j]'(by rw [← h.len]; exact hjl)) m (List.getElem?_eq_getElem _) hj
  obtain ⟨cs, hcl, ⟨rfl, _, _⟩, hcc⟩ := hcell j _ q4
  obtain ⟨_, hb, hCB⟩ := Kd.R_reads' q5
  have hC2 := Kd.C_take (m := m.length) hCB q1
  rw [q2] at hC2
  exact ⟨_, hcl, ⟨B, b, rfl, Nat.le_trans q1 hb, hC2⟩, hcc⟩
end
/-- One more room, and of it what is handed in. -/
theorem rm_snoc {w w1 w2 : World} {N a b c : Nat} {own : Nat → Nat} {vr vm v1 v2 : Value} {rs ms : List (List Int)} {rr rm : List (List Value)} {A : Option Addr} {r m : List Int}
    (hl : ms.length = rs.length) (e1 : rr.length = rs.length) (e2 : rm.length = rs.length) (hR1 : Kd.R (Kd.raw 1) 23 w N (fun k => own k = 1) vr rr) (hR2 : Kd.R (Kd.raw 1) 23 w N (fun k => own k = 2) vm rm)
    (hx : ∀ (i : Nat) (r m : List Int), rs[i]? = some r → ms[i]? = some m → m.length ≤ r.length ∧ r.take m.length = m ∧ ∃ A c, rr[i]? = some ([.slice A r.length c] : List Value) ∧ rm[i]? = some ([.slice A m.length c] : List Value) ∧ Kd.R By 5 w N (fun k => own k = 3 + i) (.slice A r.length c) r)
    (hlt : ∀ k, own k ≠ 0 → k < w.heap.size) (hr : RG w N a b (.slice A r.length c) r) (h0 : ∀ k, a ≤ k ∧ k < b → own k = 0) (hm : m.length ≤ r.length ∧ r.take m.length = m)
    (h1 : Kd.R (Kd.raw 1) 23 w1 N (fun k => own k = 1 ∨ w.heap.size ≤ k) v1 (rr ++ [([.slice A r.length c] : List Value)])) (g1 : w.grownBy w1 vr.ownBlock)
    (h2 : Kd.R (Kd.raw 1) 23 w2 N (fun k => own k = 2 ∨ w1.heap.size ≤ k) v2 (rm ++ [([.slice A m.length c] : List Value)])) (g2 : w1.grownBy w2 vm.ownBlock) :
    ∃ own', RM w2 N own' v1 v2 (rs ++ [r]) (ms ++ [m]) ∧ Upd w w2 (fun k => own k = 1 ∨ own k = 2) ∧ (∀ k, own' k ≠ 0 → own k ≠ 0 ∨ a ≤ k ∧ k < b ∨ w.heap.size ≤ k) := by
  classical
  have hU1 : Upd w w1 (fun k => own k = 1) := (Upd.refl w _).grown g1 (fun k hk _ => hR1.1 k hk)
  have hU2 : Upd w1 w2 (fun k => own k = 2) := (Upd.refl w1 _).grown g2 (fun k hk _ => hR2.1 k hk)
  have s1 := hU1.size
  have s2 := hU2.size
  have hU : Upd w w2 (fun k => own k = 1 ∨ own k = 2) := (hU1.mono (fun k _ h => .inl h)).then_ hU2 (fun k _ h => .inr h)
  have hz : ∀ k, w.heap.size ≤ k → own k = 0 := fun k hk => by
    by_cases h_ : own k = 0
    · exact h_
    · have := hlt k h_; omega
  have hhi := hr.hi
  refine ⟨fun k => if own k ≠ 0 then own k else if a ≤ k ∧ k < b then 3 + rs.length else if w.heap.size ≤ k ∧ k < w1.heap.size then 1 else if w1.heap.size ≤ k ∧ k < w2.heap.size then 2 else 0, ⟨by simp [hl], ⟨rr ++ [[.slice A r.length c]], rm ++ [[.slice A m.length c]], by simp [e1], by simp [e2], ?_, ?_, fun i r' m' hi hmi => ?_⟩, fun k hk => ?_⟩, hU, fun k hk => ?_⟩
  · refine Kd.R_mono (Kd.R_bound (Kd.R_step (Kd.R_bound h1) (fun k hk hlt => hU2.block k hlt (fun h_ => by rcases hk.1 with h3 | h3; omega; (have := hz k h3; omega))))) (fun k hk => ?_)
    rcases hk.1.1 with h_ | h_
    · rw [if_pos (by omega)]; exact h_
    · rw [if_neg (by rw [hz k h_]; simp), if_neg (by omega), if_pos ⟨h_, hk.1.2.2.1⟩]
  · refine Kd.R_mono (Kd.R_bound h2) (fun k hk => ?_)
    rcases hk.1 with h_ | h_
    · rw [if_pos (by omega)]; exact h_
    · rw [if_neg (by rw [hz k (by omega)]; simp), if_neg (by omega), if_neg (by omega), if_pos ⟨h_, hk.2.2.1⟩]
  · by_cases hil : i < rs.length
    · rw [List.getElem?_append_left hil] at hi
      rw [List.getElem?_append_left (by omega)] at hmi
      obtain ⟨q1, q2, B, d, q3, q4, q5⟩ := hx i r' m' hi hmi
      refine ⟨q1, q2, B, d, by rw [List.getElem?_append_left (by omega)]; exact q3, by rw [List.getElem?_append_left (by omega)]; exact q4, Kd.R_mono (Kd.R_step q5 (fun k hk hlt => hU.block k hlt (by omega))) (fun k hk => ?_)⟩
      rw [if_pos (by omega)]; exact hk
    · rw [List.getElem?_append_right (by omega)] at hi
      rw [List.getElem?_append_right (by omega), hl] at hmi
      cases hc : i - rs.length with
      | succ q => rw [hc] at hi; simp at hi
      | zero =>
        rw [hc] at hi hmi
        simp at hi hmi
        subst hi hmi
        refine ⟨hm.1, hm.2, A, c, by rw [List.getElem?_append_right (by omega), e1, hc]; rfl, by rw [List.getElem?_append_right (by omega), e2, hc]; rfl, Kd.R_mono (Kd.R_step hr.row (fun k hk hlt => hU.block k hlt (by have := h0 k hk; omega))) (fun k hk => ?_)⟩
        rw [if_neg (by rw [h0 k hk]; simp), if_pos hk]; omega
  · by_cases q1 : own k ≠ 0
    · have := hlt k q1; omega
    · rw [if_neg q1] at hk
      by_cases q2 : a ≤ k ∧ k < b
      · omega
      · rw [if_neg q2] at hk
        by_cases q3 : w.heap.size ≤ k ∧ k < w1.heap.size
        · omega
        · rw [if_neg q3] at hk
          by_cases q4 : w1.heap.size ≤ k ∧ k < w2.heap.size
          · omega
          · rw [if_neg q4] at hk; exact absurd rfl hk
  · dsimp only at hk
    by_cases q1 : own k ≠ 0
    · exact .inl q1
    · rw [if_neg q1] at hk
      by_cases q2 : a ≤ k ∧ k < b
      · exact .inr (.inl q2)
      · rw [if_neg q2] at hk
        by_cases q3 : w.heap.size ≤ k
        · exact .inr (.inr q3)
        · rw [if_neg (by omega), if_neg (by omega)] at hk; exact absurd rfl hk
/-- The byte in the middle of the first one, another one now. -/
def mid (m : List Int) (r : List Int) : List Int := r.set (m.length / 2) ((r.getD (m.length / 2) 0 + 85) % 256)
theorem mid_len (m r : List Int) : (mid m r).length = r.length := by simp [mid]
theorem RM.turn {w : World} {N : Nat} {own : Nat → Nat} {A : Option Addr} {n c : Nat} {vr : Value} {rs ms : List (List Int)} (h : RM w N own vr (.slice A n c) rs ms) {r m : List Int} (hr : rs[0]? = some r) (hm : ms[0]? = some m) (hp : 0 < m.length) :
    ∃ ad g d, A = some ad ∧ w.cell? (ad.add 0) = some (.slice (some ⟨g, 0, none⟩) m.length d) ∧ (⟨g, 0, none⟩ : Addr).add (m.length / 2) = ⟨g, m.length / 2, none⟩ ∧ own g = 3 ∧ N ≤ g ∧ m.length ≤ d ∧ w.cell? ⟨g, m.length / 2, none⟩ = some (.int .u8 (r.getD (m.length / 2) 0)) ∧ w.frozen? ⟨g, m.length / 2, none⟩ = false ∧
    RM (w.setCell ⟨g, m.length / 2, none⟩ (.int .u8 ((r.getD (m.length / 2) 0 + 85) % 256))) N own vr (.slice A n c) (rs.set 0 (mid m r)) (ms.set 0 (mid m m)) ∧ Upd w (w.setCell ⟨g, m.length / 2, none⟩ (.int .u8 ((r.getD (m.length / 2) 0 + 85) % 256))) (fun k => own k = 3) ∧ Kd.C By (w.setCell ⟨g, m.length / 2, none⟩ (.int .u8 ((r.getD (m.length / 2) 0 + 85) % 256))) (some ⟨g, 0, none⟩) m.length (mid m m) := by
  have h_ := h
  obtain ⟨rr, rm, e1, e2, h1, h2, hx⟩ := h.row
  obtain ⟨q1, q2, B, d, q3, q4, q5⟩ := hx 0 r m hr hm
  obtain ⟨_, _, hC⟩ := Kd.R_reads' h2
  have hrl := (List.getElem?_eq_some_iff.1 hr).1
  have hml := (List.getElem?_eq_some_iff.1 hm).1
  obtain ⟨ad, ha, hcell⟩ := hC.2.2 (by omega)
  obtain ⟨cs, hcl, ⟨rfl, _, _⟩, hcc⟩ := hcell 0 _ q4
  have hc0 := hcc 0 (.slice B m.length d) rfl
  rw [show 0 * (Kd.raw 1).sz + 0 = 0 from by simp] at hc0
  obtain ⟨g, cap, hv, hNg, hgl, cells, hblk⟩ := Kd.R_form q5 (by omega)
  injection hv with z1 z2 z3
  subst z1 z3
  have hog : own g = 3 := q5.1 g rfl
  obtain ⟨hn, hnc, hCr⟩ := Kd.R_reads' q5
  have hcl2 := (Kd.C_get hCr (0 : Int) ((m.length / 2 : Nat) : Int) (by omega) (by omega))
  obtain ⟨ad2, cs2, ha2, hl2, hK2, hcc2⟩ := hcl2
  injection ha2 with ha2
  subst ha2
  rw [Int.toNat_natCast] at hK2 hcc2
  obtain rfl : cs2 = [.int .u8 (r.getD (m.length / 2) 0)] := hK2
  have hcr := hcc2 0 _ rfl
  rw [show m.length / 2 * By.sz + 0 = m.length / 2 from by show m.length / 2 * 1 + 0 = _; omega, add_plain] at hcr
  have hput := (Kd.R_put q5 ((m.length / 2 : Nat) : Int) ((r.getD (m.length / 2) 0 + 85) % 256)).1
  rw [Int.toNat_natCast] at hput
  have hU : Upd w (w.setCell ⟨g, m.length / 2, none⟩ (.int .u8 ((r.getD (m.length / 2) 0 + 85) % 256))) (fun k => own k = 3) := Upd.setCell (S := fun k => own k = 3) (Upd.refl w _) (p := ⟨g, m.length / 2, none⟩) (fun _ => hog) _
  have hgd : m.getD (m.length / 2) 0 = r.getD (m.length / 2) 0 := by
    rw [List.getD_eq_getElem?_getD, List.getD_eq_getElem?_getD]
    have : (r.take m.length)[m.length / 2]? = r[m.length / 2]? := by rw [List.getElem?_take, if_pos (by omega)]
    rw [q2] at this
    rw [this]
  have hmt : (mid m r).take (mid m m).length = mid m m := by
    rw [mid_len]
    unfold mid
    rw [List.take_set, q2, hgd]
  refine ⟨ad, g, d, ha, hc0, add_plain g _, hog, hNg, Nat.le_trans q1 hnc, hcr, blk_frozen hblk _, ⟨by simp [h.len], ⟨rr, rm, by simp [e1], by simp [e2], Kd.R_step h1 (fun k hk hlt => hU.block k hlt (by omega)), Kd.R_step h2 (fun k hk hlt => hU.block k hlt (by omega)), fun i r' m' hi hmi => ?_⟩, fun k hk => Nat.lt_of_lt_of_le (h.lt k hk) hU.size⟩, hU, ?_⟩
  · by_cases hi0 : i = 0
    · subst hi0
      simp [hrl] at hi
      simp [hml] at hmi
      subst hi hmi
      refine ⟨by rw [mid_len, mid_len]; exact q1, hmt, _, d, by rw [mid_len]; exact q3, by rw [mid_len]; exact q4, ?_⟩
      rw [mid_len]
      exact hput
    · rw [List.getElem?_set_ne (Ne.symm hi0)] at hi hmi
      obtain ⟨p1, p2, B2, d2, p3, p4, p5⟩ := hx i r' m' hi hmi
      exact ⟨p1, p2, B2, d2, p3, p4, Kd.R_step p5 (fun k hk hlt => hU.block k hlt (by omega))⟩
  · have hC3 := (Kd.R_reads' hput).2.2
    rw [show (r.set (m.length / 2) ((r.getD (m.length / 2) 0 + 85) % 256)) = mid m r from rfl] at hC3
    have hC4 := Kd.C_take (m := m.length) hC3 (by rw [mid_len]; exact q1)
    rw [mid_len] at hmt
    rw [hmt, mid_len] at hC4
    exact hC4
end Go.Proofs.YtgfjmpnlkjocaaaDoor.J
namespace Go.Proofs.YtgfjmpnlkjocaaaDoor.J
open Go.RowKit Go.Proofs.YtgfjmpnlkjocaaaDoorW.PrintWords Go.Proofs.YtgfjmpnlkjocaaaDoorW.PrintLast Go.Proofs.YtgfjmpnlkjocaaaDoorW.PrintMore
attribute [local go_sem] max2_int min2_int max_two min_two max_three min_three max_four min_four
set_option linter.unusedVariables false
set_option linter.unusedSimpArgs false
set_option maxRecDepth 100000
theorem RM.cell {w : World} {N : Nat} {own : Nat → Nat} {A : Option Addr} {n c : Nat} {vr : Value} {rs ms : List (List Int)} (h : RM w N own vr (.slice A n c) rs ms) {m : List Int} (hm : ms[0]? = some m) :
    ∃ ad B d, A = some ad ∧ w.cell? (ad.add 0) = some (.slice B m.length d) ∧ m.length ≤ d ∧ Kd.C By w B m.length m := by
  have hC := h.mine
  have hml := (List.getElem?_eq_some_iff.1 hm).1
  obtain ⟨ad, ha, hcell⟩ := hC.2.2 (by omega)
  obtain ⟨cs, hcl, ⟨B, d, rfl, hd, hCB⟩, hcc⟩ := hcell 0 m hm
  have hc0 := hcc 0 _ rfl
  rw [show 0 * (Kd.slice 5 By).sz + 0 = 0 from by simp] at hc0
  exact ⟨ad, B, d, ha, hc0, hd, hCB⟩
set_option maxHeartbeats 2000000 in
theorem turned_calls {w : World} {N : Nat} {own : Nat → Nat} {ad : Addr} {B : Option Addr} {n c d : Nat} {vr : Value} {rs ms : List (List Int)} {m : List Int} (h : RM w N own vr (.slice (some ad) n c) rs ms) (hm : ms[0]? = some m) (hcell : w.cell? (ad.add 0) = some (.slice B m.length d)) (hmd : m.length ≤ d) (hC : Kd.C By w B m.length m) (hl : m.length ≤ 6000000) :
    Calls Tryd.prog 19 #[.slice B m.length d, .int .i64 (m.length : Int)] w fun e w' => ∃ v rs', e = .returned v ∧ RM w' N own vr (.slice (some ad) n c) rs' (ms.set 0 (mid m m)) ∧ Upd w w' (fun k => own k = 3) := by
  have H := Aside0.mk h
  have HM := Aside0.mk hm
  have HC := Aside0.mk hC
  have HMD := Aside0.mk hmd
  by_cases hz : m.length = 0
  · obtain rfl : m = [] := List.eq_nil_of_length_eq_zero hz
    have HCP := Aside0.mk (copied_is [] (by simp) 1 (by simp))
    obtain ⟨i0_, hi0_, _, hsz, _⟩ := info_parts info5
    have hcut := cut_to (P := Tryd.prog) 23 5 .i64 Tryd.underlying23 hi0_ B 0 d (0 : Int) (by omega) (by omega) (by omega)
    clear h hm hC hcell hi0_ hz hl
    go_enter Tryd.func19, Tryd.ntmps19
    go_wp2_with fail
    refine (arrearslaw6_copied.calls _ _ _ [] _ _ HC.out HMD.out HCP.out).mono ?_
    rintro e w1 ⟨v, rfl, hr, hb⟩
    have HB := Aside0.mk hb
    clear hr hb
    go_wp2_with fail
    go_ret
    refine ⟨_, rs, rfl, ?_, Upd.of_below HB.out _⟩
    have e : ms.set 0 (mid [] []) = ms := by
      have := HM.out
      cases ms with
      | nil => simp at this
      | cons x r => simp at this; subst this; rfl
    rw [e]
    exact H.out.next HB.out
  · have hrl : 0 < rs.length := by rw [← h.len]; exact (List.getElem?_eq_some_iff.1 hm).1
    obtain ⟨ad', g, d', ha, hc', e1, hog, hNg, hmd', x1, hf, hRM, hU, hCM⟩ := h.turn (List.getElem?_eq_getElem hrl) hm (by omega)
    injection ha with ha
    subst ha
    rw [hcell] at hc'
    injection hc' with hc'
    injection hc' with z1 z2 z3
    subst z1 z3
    have hql : m.length / 2 < m.length := by omega
    obtain ⟨rs', HRM⟩ : ∃ rs', Aside0 (RM (w.setCell ⟨g, m.length / 2, none⟩ (.int .u8 (((rs[0]'hrl).getD (m.length / 2) 0 + 85) % 256))) N own vr (.slice (some ad) n c) rs' (ms.set 0 (mid m m))) := ⟨_, ⟨hRM⟩⟩
    have HU := Aside0.mk hU
    have HCM := Aside0.mk hCM
    have HCP := Aside0.mk (copied_is (mid m m) (by rw [mid_len]; omega) (m.length + 1) (by rw [mid_len]; omega))
    obtain ⟨mm, hmm⟩ : ∃ mm, mm = mid m m := ⟨_, rfl⟩
    have HML := Aside0.mk (show mm.length = m.length by rw [hmm]; exact mid_len m m)
    have HMM := Aside0.mk hmm
    rw [← hmm] at HCM HCP
    clear hmm
    have hdiv : (m.length : Int).tdiv 2 = ((m.length / 2 : Nat) : Int) := by rw [Int.tdiv_eq_ediv_of_nonneg (by omega)]; omega
    obtain ⟨q, hq⟩ : ∃ q, q = m.length / 2 := ⟨_, rfl⟩
    obtain ⟨x, hx⟩ : ∃ x, x = (rs[0]'hrl).getD (m.length / 2) 0 := ⟨_, rfl⟩
    rw [← hx] at HRM HU HCM x1
    rw [← hq] at HRM HU HCM x1 hf e1 hdiv hql
    have hqi : (q : Int) < (m.length : Int) := by omega
    have hpi : (0 : Int) < (m.length : Int) := by omega
    obtain ⟨i0_, hi0_, _, hsz, _⟩ := info_parts info5
    have hcut := cut_to (P := Tryd.prog) 23 5 .i64 Tryd.underlying23 hi0_ (some ⟨g, 0, none⟩) m.length d (m.length : Int) (by omega) (by omega) (by omega)
    rw [Int.toNat_natCast] at hcut
    clear hRM hU hCM hx
    clear h hm hC hcell hi0_ hz hNg hog hq hrl hql
    go_enter Tryd.func19, Tryd.ntmps19
    go_wp2_with fail
    have HCM2 := Aside0.mk (show Kd.C By _ (some ⟨g, 0, none⟩) mm.length mm from by rw [HML.out]; exact HCM.out)
    have HMD2 := Aside0.mk (show mm.length ≤ d by rw [HML.out]; exact HMD.out)
    rw [← HML.out]
    refine (arrearslaw6_copied.calls _ _ _ mm _ _ HCM2.out HMD2.out HCP.out).mono ?_
    rintro e w1 ⟨v, rfl, hr, hb⟩
    have HB := Aside0.mk hb
    clear hr hb
    go_wp2_with fail
    go_ret
    exact ⟨_, rs', rfl, HRM.out.next HB.out, HU.out.then_ (Upd.of_below HB.out (fun k => own k = 3)) (fun _ _ h_ => h_)⟩
end Go.Proofs.YtgfjmpnlkjocaaaDoor.J
namespace Go.Proofs.YtgfjmpnlkjocaaaDoor.J
open Go.RowKit Go.Proofs.YtgfjmpnlkjocaaaDoorW.PrintWords Go.Proofs.YtgfjmpnlkjocaaaDoorW.PrintLast Go.Proofs.YtgfjmpnlkjocaaaDoorW.PrintMore
attribute [local go_sem] max2_int min2_int max_two min_two max_three min_three max_four min_four
set_option linter.unusedVariables false
set_option linter.unusedSimpArgs false
set_option maxRecDepth 100000
theorem below_drew_ {W w : World} {B : Nat} (h : Below B W w) : Below B W w.drew := h.trans (below_drew1 (Below.refl _ _))
def room (p : List Int) : List Int := p ++ Doc.marks 0 5
theorem room_len (p : List Int) : (room p).length = p.length + 5 := by unfold room; rw [List.length_append]; rfl
theorem jn_set (p q : List Int) (ps : List (List Int)) (h : p.length = q.length) : (jn ((p :: ps).set 0 q)).length = (jn (p :: ps)).length := by
  show (jn (q :: ps)).length = _
  rw [jn_cons, jn_cons, List.length_append, List.length_append, fr_len, fr_len, h]
theorem mid_bytes (m : List Int) (h : Bytes m) : Bytes (mid m m) := by
  intro x hx
  unfold mid at hx
  rcases List.mem_or_eq_of_mem_set hx with hx | rfl
  · exact h x hx
  · omega
theorem join_n {w : World} {k n c : Nat} {A : Option Addr} {l : List (List Int)} {r1 : List Int} {r2 : Bool} (hn : n = l.length) (hr : Kd.C (Kd.slice 5 By) w A l.length l) (hc : l.length ≤ c) (hL : Laid w) (h : frame_Join.f k l = some (r1, r2)) :
    Calls Tryd.prog 22 #[.slice A n c] w fun e w' => ∃ v0_ : Value, e = .returned (.tuple #[v0_, .bool r2]) ∧ Kd.R (Kd.int .u8) 5 w' w.heap.size (fun _ => True) v0_ r1 ∧ Below w.heap.size w w' := by subst hn; exact frame_Join.calls k A c l r1 r2 w hr hc hL h
theorem twin_n {w : World} {k n c : Nat} {A : Option Addr} {l r : List (List Int)} (hn : n = l.length) (hr : Kd.C (Kd.slice 5 By) w A l.length l) (hc : l.length ≤ c) (h : arrearslaw6_twin.f k l = some r) :
    Calls Tryd.prog 25 #[.slice A n c] w fun e w' => ∃ v0_ : Value, e = .returned (v0_) ∧ Kd.S (Kd.slice 5 (Kd.int .u8)) 23 w' w.heap.size (fun _ => True) v0_ r ∧ Below w.heap.size w w' := by subst hn; exact arrearslaw6_twin.calls k A c l r w hr hc h
set_option maxHeartbeats 8000000 in
theorem joins_calls (W : World) (A0 : Option Addr) (c0 : Nat) (ps : List (List Int)) (h0 : Kd.C (Kd.slice 5 By) W A0 ps.length ps) (h0c : ps.length ≤ c0) (hL : Laid W) (hby : ∀ p ∈ ps, Bytes p) (hpl : ps.length ≤ 1048576) (hpb : ∀ p ∈ ps, p.length ≤ 1048576) :
    Calls Tryd.prog 4 #[.slice A0 ps.length c0] W fun e W' => e = .returned (.bool true) ∧ Below W.heap.size W W' := by
  have H0 := Aside0.mk h0
  have HL := Aside0.mk hL
  have HC := Aside0.mk h0c
  have hjb := jn_bound 1048576 ps hpb
  have hjb2 : (jn ps).length ≤ 1000000000000000000 := by
    have : ps.length * (1048576 + 8) ≤ 1048576 * (1048576 + 8) := Nat.mul_le_mul_right _ hpl
    omega
  have HSZ := Aside0.mk (size_is ps (by omega) hjb2 (ps.length + 1) (by omega))
  have HBY := Aside0.mk hby
  clear h0 hL hjb hjb2
  by_cases hbig : (6000000 : Int) < ((jn ps).length : Int)
  · have dbig : decide ((6000000 : Int) < ((jn ps).length : Int)) = true := decide_eq_true hbig
    clear hbig hby hpl hpb
    go_enter Tryd.func4, Tryd.ntmps4
    go_wp2_with fail
    refine (arrearslaw6_size.calls _ _ _ _ _ _ H0.out HC.out HSZ.out).mono ?_
    rintro e w1 ⟨rfl, n1, rfl⟩
    go_wp2_with fail
    go_ret
    exact ⟨rfl, pw_below_drewN (Below.refl _ _) _⟩
  have dbig : decide ((6000000 : Int) < ((jn ps).length : Int)) = false := decide_eq_false hbig
  have hj : (jn ps).length ≤ 6000000 := by omega
  have HJ := Aside0.mk hj
  have HPL := Aside0.mk (show ∀ p ∈ ps, p.length ≤ 6000000 from fun p hp => by have := jn_mem hp; omega)
  have hpn : ps.length ≤ 750000 := by have := jn_len ps; omega
  have HTW := Aside0.mk (twin_is ps (by omega) (fun p hp => by have := hpb p hp; omega) (ps.length + 4194311) (by omega))
  have HP4 := Aside0.mk (show ∀ p ∈ ps, p.length ≤ 4194304 from fun p hp => by have := hpb p hp; omega)
  have HJP := Aside0.mk (join_prog ps (by omega) hby (by omega) (ps.length + 1) (by omega))
  have HJD := Aside0.mk (join_doc ps (by omega) hby (by omega) (ps.length + 8389001) (by omega))
  have HAL := Aside0.mk (alike_self ps (fun p hp => by have := hpb p hp; omega) (by omega) (ps.length + 4194311) (by omega))
  obtain ⟨jv, jb, hjv⟩ : ∃ jv jb, joinv ps = (jv, jb) := ⟨_, _, rfl⟩
  have hjvl : jv.length ≤ 6000000 := by
    have h := congrArg Prod.fst hjv
    unfold joinv at h
    split at h
    · dsimp only at h; rw [← h]; exact hj
    · dsimp only at h; rw [← h]; simp
  rw [hjv] at HJP HJD
  have HJVL := Aside0.mk hjvl
  clear hbig hby hpl hpb hj hjv hjvl
  go_enter Tryd.func4, Tryd.ntmps4
  go_wp2_with fail
  refine (arrearslaw6_size.calls _ _ _ _ _ _ H0.out HC.out HSZ.out).mono ?_
  rintro e w0 ⟨rfl, n0, rfl⟩
  have HB0 := Aside0.mk (pw_below_drewN (Below.refl W.heap.size W) n0)
  generalize W.drewN n0 = w0 at HB0 ⊢
  go_upto_block 0 with fail
  go_cut [] (fun wx => Aside0 (Below W.heap.size W wx))
  case first =>
    go_wp2_with fail
    go_loopw [3] (fun i wr => ∃ j : Nat, j ≤ ps.length ∧ i = .int .i64 (j : Int) ∧ Aside0 (Below W.heap.size W wr)) (fun i _ => ps.length - (intOf i).toNat)
    case atStart => exact ⟨0, by omega, rfl, HB0⟩
    case round =>
      clear HB0
      obtain ⟨j, hj, rfl, HB⟩ := hrel
      by_cases hjn : j < ps.length
      · obtain ⟨ad, Ap, cp, hA0, x0, hcp, hCp⟩ := at_L1 (Kd.C_below H0.out HB.out) (j : Int) (by omega) (by omega)
        subst hA0
        rw [rdL_at ps j hjn] at x0 hcp hCp
        rw [Int.toNat_natCast] at x0
        have HEN := Aside0.mk (encodes_is ps[j] (HBY.out _ (List.getElem_mem hjn)) (HPL.out _ (List.getElem_mem hjn)) 12000001 (by omega))
        obtain ⟨p, hp⟩ : ∃ p, p = ps[j] := ⟨_, rfl⟩
        rw [← hp] at x0 hcp hCp HEN
        have HCP := Aside0.mk hCp
        have HCPc := Aside0.mk hcp
        have hidx : (j : Int) < (ps.length : Int) := by omega
        clear hp hCp hcp
        go_wp2_with fail
        refine (arrearslaw6_encodes.calls _ _ _ _ _ _ HCP.out HCPc.out (laid_at HL.out HB.out) HEN.out).mono ?_
        rintro e w1 ⟨rfl, hb⟩
        have HB := Aside0.mk (HB.out.trans (hb.mono HB.out.size))
        clear hb x0
        go_wp2_with fail
        go_roundw
        case rel => exact ⟨j + 1, by omega, by go_num, HB⟩
        case measure => simp [intOf]; omega
      · obtain rfl : j = ps.length := by omega
        go_wp2_with fail
        go_meet
        exact HB
  case rest =>
  have HB1 := hcut
  clear hcut HB0
  go_upto_block 2 with fail
  go_cut [4, 5] (fun vr vm wx => ∃ own, Aside0 (RM wx W.heap.size own vr vm (ps.map room) ps) ∧ Aside0 (Below W.heap.size W wx) ∧ Aside0 (∀ k, own k ≠ 0 → W.heap.size ≤ k))
  case first =>
    go_wp2_with fail
    go_loopw [4, 5, 6] (fun vr vm i wr => ∃ j : Nat, j ≤ ps.length ∧ i = .int .i64 (j : Int) ∧ ∃ own, Aside0 (RM wr W.heap.size own vr vm ((ps.take j).map room) (ps.take j)) ∧ Aside0 (Below W.heap.size W wr) ∧ Aside0 (∀ k, own k ≠ 0 → W.heap.size ≤ k)) (fun _ _ i _ => ps.length - (intOf i).toNat)
    case atStart => exact ⟨0, by omega, rfl, fun _ => 0, ⟨by simpa using RM.nil _ _⟩, HB1, ⟨fun k hk => absurd rfl hk⟩⟩
    case round =>
      clear HB1
      obtain ⟨j, hj, rfl, own, HX, HB, HO⟩ := hrel
      by_cases hjn : j < ps.length
      · obtain ⟨ad, Ap, cp, hA0, x0, hcp, hCp⟩ := at_L1 H0.out (j : Int) (by omega) (by omega)
        subst hA0
        rw [rdL_at ps j hjn] at x0 hcp hCp
        rw [Int.toNat_natCast] at x0
        have HTK := Aside0.mk (show ps.take (j + 1) = ps.take j ++ [ps[j]] from List.take_succ_eq_append_getElem hjn)
        have HTL := Aside0.mk (show (ps.take j).length = j from List.length_take_of_le (by omega))
        have hpl := HPL.out _ (List.getElem_mem hjn)
        obtain ⟨p, hp⟩ : ∃ p, p = ps[j] := ⟨_, rfl⟩
        rw [← hp] at x0 hcp hCp HTK hpl
        have HRO := Aside0.mk (show arrearslaw6_roomy.f (p.length + 11) p = some (room p) from Doc.roomy_is p hpl _ (by omega))
        obtain ⟨r, hr⟩ : ∃ r, r = room p := ⟨_, rfl⟩
        have HRP := Aside0.mk (show p.length ≤ r.length ∧ r.take p.length = p by rw [hr, room_len]; exact ⟨by omega, by unfold room; exact List.take_left⟩)
        have HR := Aside0.mk hr
        rw [← hr] at HRO
        have HCP := Aside0.mk hCp
        have HCPc := Aside0.mk hcp
        have HPP := Aside0.mk hpl
        have x1 := (HB.out.cell (World.block_lt_of_cell? _ _ x0)).trans x0
        have hidx : (j : Int) < (ps.length : Int) := by omega
        clear hp hCp hcp hr hpl
        go_wp2_with fail
        refine (arrearslaw6_roomy.calls _ _ _ _ _ _ (Kd.C_below HCP.out HB.out) HCPc.out HRO.out).mono ?_
        rintro e s1 ⟨v, rfl, hr, hb⟩
        have HG := Aside0.mk (rg_of hr HB.out.size)
        have HWR := Aside0.mk HB.out.size
        have HXLT := Aside0.mk HX.out.lt
        obtain ⟨Aq, cq, rfl, hcq⟩ := HG.out.slice
        have HCQ := Aside0.mk hcq
        have HX := Aside0.mk (HX.out.next hb)
        have HLT := Aside0.mk HX.out.lt
        have HB := Aside0.mk (HB.out.trans (hb.mono HB.out.size))
        have HZ := Aside0.mk (show ∀ k, wr.heap.size ≤ k ∧ k < s1.heap.size → own k = 0 from fun k hk => by by_cases h_ : own k = 0; exact h_; (have := HXLT.out k h_; omega))
        clear hr hb hcq x1
        obtain ⟨rr, rm, e1, e2, hR1, hR2, hxx⟩ := HX.out.row
        have HE1 := Aside0.mk e1
        have HE2 := Aside0.mk e2
        have HR1 := Aside0.mk hR1
        have HR2 := Aside0.mk hR2
        have HXX := Aside0.mk hxx
        have HLN := Aside0.mk HX.out.len
        have HBD := Aside0.mk (show (rr.length + 1) * 24 ≤ 140737488355328 by rw [e1, List.length_map, HTL.out]; omega)
        have HBD2 := Aside0.mk (show (rm.length + 1) * 24 ≤ 140737488355328 by rw [e2, List.length_map, HTL.out]; omega)
        clear e1 e2 hR1 hR2 hxx
        go_upto_region 15 with (first | ((refine gate_builtin (b := .append) (xs := #[.tmp 43, .tmp 45]) rfl ?_); at_builtin; refine Kd.R_append (Kd.raw 1) (w0 := s1) W.heap.size rfl (.tmp 43) (.tmp 45) 30 23 (.slice none 0 0) 24 rfl Tryd.underlying30 info23 rfl (by decide) (by decide) _ rr [.slice Aq r.length cq] [.slice Aq r.length cq] (fun k => own k = 1 ∨ s1.heap.size ≤ k) (fun _ => False) rfl rfl ⟨rfl, rfl, fun u hu => by simp at hu; subst hu; rfl⟩ (fun _ hk => hk.elim) (fun _ hk => .inr hk) (Kd.R_mono HR1.out (fun k hk => .inl hk)) (Below.refl _ _) HB.out.size HBD.out ?_; intro vr1 w1 hr1 hb1 hg1 hat1; have HQ1 := Aside0.mk hr1; have HG1 := Aside0.mk hg1; have HU1 := Aside0.mk (show Upd s1 w1 (fun k => own k = 1) from (Upd.refl s1 _).grown hg1 (fun k hk _ => HR1.out.1 k hk)); clear hr1 hb1 hg1 hat1) | fail)
        have HB1 := Aside0.mk (HU1.out.below HB.out (fun k h_ => HO.out k (by omega)) HB.out.size)
        have x2 := (HB1.out.cell (World.block_lt_of_cell? _ _ x0)).trans x0
        have HR21 := Aside0.mk (show Kd.R (Kd.raw 1) 23 w1 W.heap.size (fun k => own k = 2 ∨ w1.heap.size ≤ k) _ rm from Kd.R_mono (Kd.R_step HR2.out (fun k hk hlt => HU1.out.block k hlt (by have hk : own k = 2 := hk; omega))) (fun k hk => .inl hk))
        obtain ⟨i0_, hi0_, _, hsz, _⟩ := info_parts info5
        have hcut := cut_to (P := Tryd.prog) 23 5 .i64 Tryd.underlying23 hi0_ Aq r.length cq (p.length : Int) (by omega) (by have := HRP.out.1; omega) HCQ.out
        rw [Int.toNat_natCast] at hcut
        clear hi0_ hsz
        go_wp2_with (first | ((refine gate_builtin (b := .append) (xs := #[.tmp 47, .tmp 55]) rfl ?_); at_builtin; refine Kd.R_append (Kd.raw 1) (w0 := w1) W.heap.size rfl (.tmp 47) (.tmp 55) 30 23 (.slice none 0 0) 24 rfl Tryd.underlying30 info23 rfl (by decide) (by decide) _ rm [.slice Aq p.length cq] [.slice Aq p.length cq] (fun k => own k = 2 ∨ w1.heap.size ≤ k) (fun _ => False) rfl rfl ⟨rfl, rfl, fun u hu => by simp at hu; subst hu; rfl⟩ (fun _ hk => hk.elim) (fun _ hk => .inr hk) HR21.out (Below.refl _ _) HB1.out.size HBD2.out ?_; intro vm1 w2 hr2 hb2 hg2 hat2; have HQ2 := Aside0.mk hr2; have HG2 := Aside0.mk hg2; clear hr2 hb2 hg2 hat2) | fail)
        obtain ⟨o2, q1, q2, q3⟩ := rm_snoc HLN.out HE1.out HE2.out HR1.out HR2.out HXX.out HLT.out HG.out HZ.out HRP.out HQ1.out HG1.out HQ2.out HG2.out
        go_roundw
        case rel => exact ⟨j + 1, by omega, by go_num, o2, ⟨by rw [HTK.out, List.map_append, List.map_singleton, ← HR.out]; exact q1⟩, ⟨q2.below HB.out (fun k h_ => HO.out k (by omega)) HB.out.size⟩, ⟨fun k hk => by
          rcases q3 k hk with h_ | h_ | h_
          · exact HO.out k h_
          · have := HWR.out; omega
          · have := HB.out.size; omega⟩⟩
        case measure => simp [intOf]; omega
      · obtain rfl : j = ps.length := by omega
        go_wp2_with fail
        go_meet
        exact ⟨own, ⟨by simpa using HX.out⟩, HB, HO⟩
  case rest =>
  obtain ⟨own, HX, HB, HO⟩ := hcut
  clear HB1
  obtain ⟨rs, hrs⟩ : ∃ rs, rs = ps.map room := ⟨_, rfl⟩
  rw [← hrs] at HX
  have HRS := Aside0.mk hrs
  clear hrs
  obtain ⟨Ar, cr, Am, cm, rfl, rfl, hcr, hcm⟩ := HX.out.slices
  have HCR := Aside0.mk hcr
  have HCM := Aside0.mk hcm
  clear hcr hcm
  go_wp2_with fail
  refine (frame_Join.calls _ _ _ _ _ _ _ HX.out.mine HCM.out (laid_at HL.out HB.out) HJP.out).mono ?_
  rintro e w1 ⟨v, rfl, hr, hb⟩
  have HRF := Aside0.mk (rg_of hr HB.out.size)
  have HRFH := Aside0.mk hb.size
  obtain ⟨Af, cf, rfl, hcf⟩ := HRF.out.slice
  have HCF := Aside0.mk hcf
  have HWC := Aside0.mk HX.out.lt
  have HX := Aside0.mk (HX.out.next hb)
  have HB := Aside0.mk (HB.out.trans (hb.mono HB.out.size))
  clear hr hb hcf
  go_wp2_with fail
  refine (arrearsref6_Join.calls _ _ _ _ _ _ _ (Kd.C_below H0.out HB.out) HC.out HJD.out).mono ?_
  rintro e w2 ⟨v, rfl, hr, hb⟩
  have HRG := Aside0.mk (rg_of hr HB.out.size)
  obtain ⟨Ag, cg, rfl, hcg⟩ := HRG.out.slice
  have HCG := Aside0.mk hcg
  have HX := Aside0.mk (HX.out.next hb)
  have HRF := Aside0.mk (HRF.out.next hb)
  have HB := Aside0.mk (HB.out.trans (hb.mono HB.out.size))
  clear hr hb hcg
  go_wp2_with fail
  go_loopw [12] (fun i wr => ∃ j : Nat, j ≤ ps.length ∧ i = .int .i64 (j : Int) ∧ Aside0 (RM wr W.heap.size own (.slice Ar rs.length cr) (.slice Am ps.length cm) rs ps) ∧ Aside0 (RG wr W.heap.size wc.heap.size w1.heap.size (.slice Af jv.length cf) jv) ∧ Aside0 (RG wr W.heap.size w1.heap.size w2.heap.size (.slice Ag jv.length cg) jv) ∧ Aside0 (Below W.heap.size W wr)) (fun i _ => ps.length - (intOf i).toNat)
  case atStart => exact ⟨0, by omega, rfl, HX, HRF, HRG, HB⟩
  case round =>
    clear HX HRF HRG HB
    obtain ⟨j, hj, rfl, HX, HRF, HRG, HB⟩ := hrel
    by_cases hjn : j < ps.length
    · obtain ⟨ad, Ap, cp, hA0, x0, hcp, hCp⟩ := at_L1 H0.out (j : Int) (by omega) (by omega)
      have hrl : j < rs.length := by rw [HRS.out, List.length_map]; exact hjn
      obtain ⟨adr, Br, br, hAr, y0, hbr, hCr⟩ := at_L1 HX.out.rooms (j : Int) (by omega) (by omega)
      subst hA0 hAr
      rw [rdL_at ps j hjn] at x0 hcp hCp
      rw [rdL_at rs j hrl, show rs[j] = room ps[j] by simp [HRS.out]] at y0 hbr hCr
      rw [Int.toNat_natCast] at x0 y0
      have hpl := HPL.out _ (List.getElem_mem hjn)
      obtain ⟨p, hp⟩ : ∃ p, p = ps[j] := ⟨_, rfl⟩
      rw [← hp] at x0 hcp hCp hpl y0 hbr hCr
      have HRO := Aside0.mk (show arrearslaw6_roomy.f (p.length + 11) p = some (room p) from Doc.roomy_is p hpl _ (by omega))
      have HRL := Aside0.mk (show (room p).length ≤ 10000000 by rw [room_len]; omega)
      have HCP := Aside0.mk hCp
      have HCPc := Aside0.mk hcp
      have HCRR := Aside0.mk hCr
      have HCRc := Aside0.mk hbr
      have x1 := (HB.out.cell (World.block_lt_of_cell? _ _ x0)).trans x0
      have hidx : (j : Int) < (ps.length : Int) := by omega
      have hidx2 : (j : Int) < (rs.length : Int) := by omega
      obtain ⟨rp, hrp⟩ : ∃ rp, rp = room p := ⟨_, rfl⟩
      rw [← hrp] at y0 HRO HRL HCRR HCRc
      clear hp hCp hcp hpl hCr hbr hrl x0 hrp
      go_upto_region 21 with fail
      refine start_ (n := 11) (S := fun w' => w'.cell? (adr.add j) = some (.slice Br rp.length br) ∧ w'.cell? (ad.add j) = some (.slice Ap p.length cp)) (ds := [9]) #[false, false, false, false, false, false, false, false, false, false, false] (by kernel_rfl) rfl rfl ⟨y0, x1⟩ (fun hHeld => ?_)
      refine pure_ (i := 0) (N := (some 73)) (v := ?_) (a' := ?_) #[true, false, false, false, false, false, false, false, false, false, false] rfl rfl (by kernel_rfl) (fun _ _ _ h => h) (Or.inl ⟨by rfl, ?_⟩) ?_ ?_
      rotate_left
      · intro w'
        go_simp
        with_reducible rfl
      rotate_left
      · simp only [Act.put, List.setIfInBounds_toArray, List.set_cons_zero, List.set_cons_succ, i64_w, i32_w]
        rfl
      refine pure_ (i := 1) (N := (some 74)) (v := ?_) (a' := ?_) #[true, true, false, false, false, false, false, false, false, false, false] rfl rfl (by kernel_rfl) (fun _ _ _ h => h) (Or.inl ⟨by rfl, ?_⟩) ?_ ?_
      rotate_left
      · intro w'
        go_simp
        with_reducible rfl
      rotate_left
      · simp only [Act.put, List.setIfInBounds_toArray, List.set_cons_zero, List.set_cons_succ, i64_w, i32_w]
        rfl
      refine pure_ (i := 2) (N := (some 75)) (v := ?_) (a' := ?_) #[true, true, true, false, false, false, false, false, false, false, false] rfl rfl (by kernel_rfl) (fun _ _ _ h => h) (Or.inl ⟨by rfl, ?_⟩) ?_ ?_
      rotate_left
      · intro w'
        go_simp
        with_reducible rfl
      rotate_left
      · simp only [Act.put, List.setIfInBounds_toArray, List.set_cons_zero, List.set_cons_succ, i64_w, i32_w]
        rfl
      refine pure_ (i := 4) (N := (some 77)) (v := ?_) (a' := ?_) #[true, true, true, false, true, false, false, false, false, false, false] rfl rfl (by kernel_rfl) (fun _ _ _ h => h) (Or.inl ⟨by rfl, ?_⟩) ?_ ?_
      rotate_left
      · intro w'
        go_simp
        with_reducible rfl
      rotate_left
      · simp only [Act.put, List.setIfInBounds_toArray, List.set_cons_zero, List.set_cons_succ, i64_w, i32_w]
        rfl
      refine pure_ (i := 5) (N := (some 78)) (v := ?_) (a' := ?_) #[true, true, true, false, true, true, false, false, false, false, false] rfl rfl (by kernel_rfl) (fun _ _ _ h => h) (Or.inl ⟨by rfl, ?_⟩) ?_ ?_
      rotate_left
      · intro w'
        go_simp
        with_reducible rfl
      rotate_left
      · simp only [Act.put, List.setIfInBounds_toArray, List.set_cons_zero, List.set_cons_succ, i64_w, i32_w]
        rfl
      refine pure_ (i := 6) (N := (some 79)) (v := ?_) (a' := ?_) #[true, true, true, false, true, true, true, false, false, false, false] rfl rfl (by kernel_rfl) (fun _ _ _ h => h) (Or.inl ⟨by rfl, ?_⟩) ?_ ?_
      rotate_left
      · intro w'
        go_simp
        with_reducible rfl
      rotate_left
      · simp only [Act.put, List.setIfInBounds_toArray, List.set_cons_zero, List.set_cons_succ, i64_w, i32_w]
        rfl
      refine take_ (i := 3) (N := (some 76)) (v := ?_) (a' := ?_) #[true, true, true, true, true, true, true, false, false, false, false] rfl rfl (by kernel_rfl) (fun _ _ _ h => h) (Or.inl ⟨by rfl, ?_⟩) hHeld ?_ ?_
      rotate_left
      · rintro w' ⟨s0, s1⟩
        go_simp
        with_reducible rfl
      rotate_left
      · simp only [Act.put, List.setIfInBounds_toArray, List.set_cons_zero, List.set_cons_succ, i64_w, i32_w]
        rfl
      refine take_ (i := 7) (N := (some 80)) (v := ?_) (a' := ?_) #[true, true, true, true, true, true, true, true, false, false, false] rfl rfl (by kernel_rfl) (fun _ _ _ h => h) (Or.inl ⟨by rfl, ?_⟩) hHeld ?_ ?_
      rotate_left
      · rintro w' ⟨s0, s1⟩
        go_simp
        with_reducible rfl
      rotate_left
      · simp only [Act.put, List.setIfInBounds_toArray, List.set_cons_zero, List.set_cons_succ, i64_w, i32_w]
        rfl
      refine one_ (i := 8) (N := (some 81)) #[true, true, true, true, true, true, true, true, true, false, false] rfl rfl (by kernel_rfl) (by decide) (fun K hK => ?_)
      refine goes_ Tryd.func13 (by kernel_rfl) rfl #[.slice Ap p.length cp] (by rfl) rfl rfl (by (try simp only [List.map_toArray, List.map_cons, List.map_nil]); first | done | rfl | (simp only [List.length_drop, List.length_take]; rfl)) ?_
      with_reducible refine (arrearslaw6_roomy.calls _ Ap cp p rp _ (Kd.C_below HCP.out (below_drew_ HB.out)) HCPc.out HRO.out).mono ?_
      rintro e w6 ⟨v6, rfl, hr6, hb6⟩
      refine ⟨_, rfl, ?_⟩
      obtain ⟨A6, c6, rfl, hc6⟩ := rsl hr6
      have HT := Aside0.mk (Kd.R_reads' hr6).2.2
      have HC6 := Aside0.mk hc6
      have HB6 := Aside0.mk hb6
      have hx6 := (hb6.cell (World.block_lt_of_cell? _ _ hHeld.1)).trans hHeld.1
      have hx7 := (hb6.cell (World.block_lt_of_cell? _ _ hHeld.2)).trans hHeld.2
      clear hr6 hb6 hc6
      refine hK.out _ _ ⟨hx6, hx7⟩ (fun hHeld => ?_)
      clear hK K
      refine norm_ (a' := ?_) ?_ ?_
      rotate_left
      · show Act.put _ (some 81) _ = _
        simp only [Act.put, List.setIfInBounds_toArray, List.set_cons_zero, List.set_cons_succ, i64_w, i32_w]
        rfl
      refine last_ (i := 9) (N := (some 82)) #[true, true, true, true, true, true, true, true, true, true, false] rfl rfl (by kernel_rfl) (by decide) (fun K hK => ?_)
      refine goes_ Tryd.func18 (by kernel_rfl) rfl #[.slice Br rp.length br, .slice A6 rp.length c6] (by rfl) rfl rfl (by (try simp only [List.map_toArray, List.map_cons, List.map_nil]); first | done | rfl | (simp only [List.length_drop, List.length_take]; rfl)) ?_
      with_reducible refine (same_t rfl rfl (Kd.C_below HCRR.out (below_drew1_ HB6.out)) HCRc.out HT.out HC6.out HRL.out).mono ?_
      rintro e w7 ⟨rfl, nd, rfl⟩
      refine ⟨_, rfl, ?_⟩
      have HD7 := Aside0.mk (pw_below_drewN (Below.refl w6.heap.size w6) nd)
      refine hK.out _ _ ?_
      clear hK K
      refine norm_ (a' := ?_) ?_ ?_
      rotate_left
      · show Act.put _ (some 82) _ = _
        simp only [Act.put, List.setIfInBounds_toArray, List.set_cons_zero, List.set_cons_succ, i64_w, i32_w]
        rfl
      refine pure_ (i := 10) (N := (some 83)) (v := ?_) (a' := ?_) #[true, true, true, true, true, true, true, true, true, true, true] rfl rfl (by kernel_rfl) (fun _ _ _ h => h) (Or.inl ⟨by rfl, ?_⟩) ?_ ?_
      rotate_left
      · intro w'
        go_simp
        with_reducible rfl
      rotate_left
      · simp only [Act.put, List.setIfInBounds_toArray, List.set_cons_zero, List.set_cons_succ, i64_w, i32_w]
        rfl
      refine done_ (by kernel_rfl) ?_
      have HB7 := Aside0.mk ((below_drew1_ HB6.out).trans (HD7.out.mono (below_drew1_ HB6.out).size))
      go_wp2_with fail
      go_roundw
      case rel => exact ⟨j + 1, by omega, by go_num, ⟨HX.out.next HB7.out⟩, ⟨HRF.out.next HB7.out⟩, ⟨HRG.out.next HB7.out⟩, ⟨HB.out.trans (HB7.out.mono HB.out.size)⟩⟩
      case measure => simp [intOf]; omega
    · obtain rfl : j = ps.length := by omega
      go_wp2_with fail
      refine (same_t rfl rfl HRF.out.reads HCF.out HRG.out.reads HCG.out (by have := HJVL.out; omega)).mono ?_
      rintro e t1 ⟨rfl, n1, rfl⟩
      go_wp2_with fail
      refine (arrearslaw6_alike.calls _ _ _ _ _ _ _ _ _ (Kd.C_drewN HX.out.mine _) HCM.out (Kd.C_drewN (Kd.C_below H0.out HB.out) _) HC.out HAL.out).mono ?_
      rintro e t2 ⟨rfl, n2, rfl⟩
      have HD := Aside0.mk (pw_below_drewN (Below.refl wr.heap.size wr) (n1 + n2))
      have HX := Aside0.mk (HX.out.next HD.out)
      have HRF := Aside0.mk (HRF.out.next HD.out)
      have HRG := Aside0.mk (HRG.out.next HD.out)
      have HB := Aside0.mk (HB.out.trans (HD.out.mono HB.out.size))
      go_upto_region 25 with fail
      obtain ⟨y1, hy1⟩ : ∃ y1, y1 = wr.drewN (n1 + n2) := ⟨_, rfl⟩
      rw [← hy1] at HX HRF HRG HB ⊢
      clear hy1 HD
      by_cases hz : ps.length = 0
      · have d0 : ((ps.length : Int) == 0) = true := by simp [hz]
        clear hz
        go_wp2_with fail
        go_ret
        exact ⟨rfl, HB.out⟩
      have d0 : ((ps.length : Int) == 0) = false := by simp; exact fun h_ => hz (by simp [h_])
      have hM0 : ps[0]? = some ps[0] := List.getElem?_eq_getElem (by omega)
      have hp0 := List.getElem_mem (l := ps) (n := 0) (by omega)
      obtain ⟨adm, Bm, dm, hAm, z0, hmd, hCm⟩ := HX.out.cell hM0
      subst hAm
      have hset : ps = ps[0] :: ps.drop 1 := by
        have := List.drop_eq_getElem_cons (l := ps) (i := 0) (by omega)
        simpa using this
      obtain ⟨m, hm⟩ : ∃ m, m = ps[0] := ⟨_, rfl⟩
      rw [← hm] at hM0 z0 hmd hCm hset hp0
      have hjs : (jn (ps.set 0 (mid m m))).length = (jn ps).length := by rw [hset]; exact jn_set m (mid m m) _ (mid_len m m).symm
      obtain ⟨ms2, hms2⟩ : ∃ q, q = ps.set 0 (mid m m) := ⟨_, rfl⟩
      have hb2 : ∀ p ∈ ms2, Bytes p := fun p hp => by
        rw [hms2] at hp
        rcases List.mem_or_eq_of_mem_set hp with hp | rfl
        · exact HBY.out p hp
        · exact mid_bytes m (HBY.out m hp0)
      have hl2 : ∀ p ∈ ms2, p.length ≤ 4194304 := fun p hp => by
        rw [hms2] at hp
        rcases List.mem_or_eq_of_mem_set hp with hp | rfl
        · exact HP4.out p hp
        · rw [mid_len]; exact HP4.out m hp0
      have hn2 : ms2.length = ps.length := by rw [hms2, List.length_set]
      rw [← hms2] at hjs
      have HTW2 := Aside0.mk (twin_is ms2 (by omega) hl2 (ms2.length + 4194311) (by omega))
      have HJP2 := Aside0.mk (join_prog ms2 (by omega) hb2 (by have := HJ.out; omega) (ms2.length + 1) (by omega))
      have HJD2 := Aside0.mk (join_doc ms2 (by omega) hb2 (by have := HJ.out; omega) (ms2.length + 8389001) (by omega))
      obtain ⟨jv2, jb2, hjv2⟩ : ∃ jv jb, joinv ms2 = (jv, jb) := ⟨_, _, rfl⟩
      have hjvl2 : jv2.length ≤ 6000000 := by
        have h := congrArg Prod.fst hjv2
        have := HJ.out
        unfold joinv at h
        split at h
        · dsimp only at h; subst h; first | exact Nat.zero_le _ | (rw [hjs]; exact HJ.out)
        · dsimp only at h; subst h; first | exact Nat.zero_le _ | (rw [hjs]; exact HJ.out)
      rw [hjv2] at HJP2 HJD2
      have HJVL2 := Aside0.mk hjvl2
      have HN2 := Aside0.mk hn2.symm
      have HM0 := Aside0.mk hM0
      have HMD := Aside0.mk hmd
      have HCM0 := Aside0.mk hCm
      have HMLL := Aside0.mk (HPL.out m hp0)
      have HMS := Aside0.mk hms2
      have hpp : 0 < ps.length := by omega
      clear hM0 hmd hCm hset hp0 hm hjs hms2 hb2 hl2 hn2 hjv2 hjvl2
      go_upto_region 27 with fail
      refine start_ (n := 8) (S := fun w' => w'.cell? adm = some (.slice Bm m.length dm)) (ds := [7]) #[false, false, false, false, false, false, false, false] (by kernel_rfl) rfl rfl (show y1.drew.cell? adm = _ by rw [show adm.add 0 = adm by simp [Addr.add]] at z0; exact z0) (fun hHeld => ?_)
      refine pure_ (i := 0) (N := (some 102)) (v := ?_) (a' := ?_) #[true, false, false, false, false, false, false, false] rfl rfl (by kernel_rfl) (fun _ _ _ h => h) (Or.inl ⟨by rfl, ?_⟩) ?_ ?_
      rotate_left
      · intro w'
        go_simp
        with_reducible rfl
      rotate_left
      · simp only [Act.put, List.setIfInBounds_toArray, List.set_cons_zero, List.set_cons_succ, i64_w, i32_w]
        rfl
      refine pure_ (i := 1) (N := (some 103)) (v := ?_) (a' := ?_) #[true, true, false, false, false, false, false, false] rfl rfl (by kernel_rfl) (fun _ _ _ h => h) (Or.inl ⟨by rfl, ?_⟩) ?_ ?_
      rotate_left
      · intro w'
        go_simp
        with_reducible rfl
      rotate_left
      · simp only [Act.put, List.setIfInBounds_toArray, List.set_cons_zero, List.set_cons_succ, i64_w, i32_w]
        rfl
      refine pure_ (i := 3) (N := (some 105)) (v := ?_) (a' := ?_) #[true, true, false, true, false, false, false, false] rfl rfl (by kernel_rfl) (fun _ _ _ h => h) (Or.inl ⟨by rfl, ?_⟩) ?_ ?_
      rotate_left
      · intro w'
        go_simp
        with_reducible rfl
      rotate_left
      · simp only [Act.put, List.setIfInBounds_toArray, List.set_cons_zero, List.set_cons_succ, i64_w, i32_w]
        rfl
      refine pure_ (i := 4) (N := (some 106)) (v := ?_) (a' := ?_) #[true, true, false, true, true, false, false, false] rfl rfl (by kernel_rfl) (fun _ _ _ h => h) (Or.inl ⟨by rfl, ?_⟩) ?_ ?_
      rotate_left
      · intro w'
        go_simp
        with_reducible rfl
      rotate_left
      · simp only [Act.put, List.setIfInBounds_toArray, List.set_cons_zero, List.set_cons_succ, i64_w, i32_w]
        rfl
      refine take_ (i := 2) (N := (some 104)) (v := ?_) (a' := ?_) #[true, true, true, true, true, false, false, false] rfl rfl (by kernel_rfl) (fun _ _ _ h => h) (Or.inl ⟨by rfl, ?_⟩) hHeld ?_ ?_
      rotate_left
      · rintro w' s0
        go_simp
        with_reducible rfl
      rotate_left
      · simp only [Act.put, List.setIfInBounds_toArray, List.set_cons_zero, List.set_cons_succ, i64_w, i32_w]
        rfl
      refine take_ (i := 5) (N := (some 107)) (v := ?_) (a' := ?_) #[true, true, true, true, true, true, false, false] rfl rfl (by kernel_rfl) (fun _ _ _ h => h) (Or.inl ⟨by rfl, ?_⟩) hHeld ?_ ?_
      rotate_left
      · rintro w' s0
        go_simp
        with_reducible rfl
      rotate_left
      · simp only [Act.put, List.setIfInBounds_toArray, List.set_cons_zero, List.set_cons_succ, i64_w, i32_w]
        rfl
      refine pure_ (i := 6) (N := (some 108)) (v := ?_) (a' := ?_) #[true, true, true, true, true, true, true, false] rfl rfl (by kernel_rfl) (fun _ _ _ h => h) (Or.inl ⟨by rfl, ?_⟩) ?_ ?_
      rotate_left
      · intro w'
        go_simp
        with_reducible rfl
      rotate_left
      · simp only [Act.put, List.setIfInBounds_toArray, List.set_cons_zero, List.set_cons_succ, i64_w, i32_w]
        rfl
      refine last_ (i := 7) (N := (some 109)) #[true, true, true, true, true, true, true, true] rfl rfl (by kernel_rfl) (by decide) (fun K hK => ?_)
      refine goes_ Tryd.func19 (by kernel_rfl) rfl #[.slice Bm m.length dm, .int .i64 (m.length : Int)] (by rfl) rfl rfl (by (try simp only [List.map_toArray, List.map_cons, List.map_nil]); first | done | rfl | (simp only [List.length_drop, List.length_take]; rfl)) ?_
      with_reducible refine (turned_calls (HX.out.next (below_drew1 (Below.refl _ _))) HM0.out (by rw [show adm.add 0 = adm by simp [Addr.add]]; exact hHeld) HMD.out (Kd.C_below HCM0.out (below_drew1 (Below.refl _ _))) HMLL.out).mono ?_
      rintro e w7 ⟨v7, rs2, rfl, hRM7, hU7⟩
      refine ⟨_, rfl, ?_⟩
      rw [← HMS.out] at hRM7
      have HX7 := Aside0.mk hRM7
      have HU7 := Aside0.mk hU7
      clear hRM7 hU7
      refine hK.out _ _ ?_
      clear hK K
      refine norm_ (a' := ?_) ?_ ?_
      rotate_left
      · show Act.put _ (some 109) _ = _
        simp only [Act.put, List.setIfInBounds_toArray, List.set_cons_zero, List.set_cons_succ, i64_w, i32_w]
        rfl
      refine done_ (by kernel_rfl) ?_
      have HDR := Aside0.mk (below_drew1 (Below.refl y1.heap.size y1))
      have HRF := Aside0.mk ((HRF.out.next HDR.out).upd HU7.out (fun k h1 h2 h3 => by have := HWC.out k (by omega); omega))
      have HRG := Aside0.mk ((HRG.out.next HDR.out).upd HU7.out (fun k h1 h2 h3 => by have := HWC.out k (by omega); have := HRFH.out; omega))
      have HB := Aside0.mk (HU7.out.below (HB.out.trans (HDR.out.mono HB.out.size)) (fun k h_ => HO.out k (by omega)) (HB.out.trans (HDR.out.mono HB.out.size)).size)
      clear HX
      go_wp2_with fail
      refine (join_n HN2.out HX7.out.mine (by rw [← HN2.out]; exact HCM.out) (laid_at HL.out HB.out) HJP2.out).mono ?_
      rintro e w8 ⟨v, rfl, hr, hb⟩
      have HRH := Aside0.mk (rg_of hr HB.out.size)
      obtain ⟨Ah, ch, rfl, hch⟩ := HRH.out.slice
      have HCH := Aside0.mk hch
      have HX7 := Aside0.mk (HX7.out.next hb)
      have HRF := Aside0.mk (HRF.out.next hb)
      have HRG := Aside0.mk (HRG.out.next hb)
      have HB := Aside0.mk (HB.out.trans (hb.mono HB.out.size))
      clear hr hb hch
      go_wp2_with fail
      refine (twin_n HN2.out HX7.out.mine (by rw [← HN2.out]; exact HCM.out) HTW2.out).mono ?_
      rintro e w9 ⟨v, rfl, hs, hb⟩
      obtain ⟨Bt, bt, rfl, hct, hCt⟩ := Kd.S_reads hs
      have HCT := Aside0.mk hCt
      have HCTc := Aside0.mk hct
      have HRH := Aside0.mk (HRH.out.next hb)
      have HRF := Aside0.mk (HRF.out.next hb)
      have HRG := Aside0.mk (HRG.out.next hb)
      have HB := Aside0.mk (HB.out.trans (hb.mono HB.out.size))
      clear hs hb hCt hct
      go_wp2_with fail
      refine (arrearsref6_Join.calls _ _ _ _ _ _ _ HCT.out HCTc.out HJD2.out).mono ?_
      rintro e w10 ⟨v, rfl, hr, hb⟩
      have HRI := Aside0.mk (rg_of hr HB.out.size)
      obtain ⟨Ai, ci, rfl, hci⟩ := HRI.out.slice
      have HCI := Aside0.mk hci
      have HRH := Aside0.mk (HRH.out.next hb)
      have HRF := Aside0.mk (HRF.out.next hb)
      have HRG := Aside0.mk (HRG.out.next hb)
      have HB := Aside0.mk (HB.out.trans (hb.mono HB.out.size))
      clear hr hb hci
      go_wp2_with fail
      refine (same_t rfl rfl HRH.out.reads HCH.out HRI.out.reads HCI.out (by have := HJVL2.out; omega)).mono ?_
      rintro e t1 ⟨rfl, n1, rfl⟩
      go_wp2_with fail
      refine (same_t rfl rfl (Kd.C_drewN HRF.out.reads _) HCF.out (Kd.C_drewN HRG.out.reads _) HCG.out (by have := HJVL.out; omega)).mono ?_
      rintro e t2 ⟨rfl, n2, rfl⟩
      go_wp2_with fail
      go_ret
      exact ⟨rfl, pw_below_drewN HB.out _⟩
end Go.Proofs.YtgfjmpnlkjocaaaDoor.J
