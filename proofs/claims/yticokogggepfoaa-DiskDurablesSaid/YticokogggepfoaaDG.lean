/- The program's disk: Append, Sync, Truncate. No condition but what the disk holds. -/
import Derived.Test.YticokogggepfoaaDF
namespace Go.Proofs.Yticokogggepfoaa.D
open Go.RowKit Go.Proofs.YticokogggepfoaaW.PrintWords Go.Proofs.YticokogggepfoaaW.PrintLast Go.Proofs.YticokogggepfoaaW.PrintMore
attribute [local go_sem] max2_int min2_int max_two min_two max_three min_three max_four min_four
set_option linter.unusedVariables false
set_option linter.unusedSimpArgs false
set_option maxRecDepth 100000
def PM.setB (p : PM) (n : Int) (xs : List Int) : PM := if n = 0 then { p with b0 := xs } else { p with b1 := xs }
def PM.setS (p : PM) (n : Int) (s : Nat) : PM := if n = 0 then { p with s0 := s } else { p with s1 := s }
/-- A counted write: done, or the disk falls at it. -/
def PM.fin (q : PM) (z : PM → PM) : PM × Int := if q.write.2 = true then (z q.write.1, 0) else (q.write.1.fall, 51)
def PM.append (p : PM) (n : Int) (data : List Int) : PM × Int :=
  if badF n then (p, 50) else if p.dn = true then (p, 51) else if 16777216 < (p.all n).length + data.length then (p, 52) else (p.setB n (p.all n ++ data)).fin id
def PM.syncf (p : PM) (n : Int) : PM × Int :=
  if badF n then (p, 50) else if p.dn = true then (p, 51) else p.fin (fun q => q.setS n (q.all n).length)
def PM.trunc (p : PM) (n : Int) (size : Int) : PM × Int :=
  if badF n then (p, 50) else if p.dn = true then (p, 51) else if size < 0 ∨ ((p.all n).length : Int) < size then (p, 2) else p.fin (fun q => (q.setB n ((q.all n).take size.toNat)).setS n size.toNat)
theorem Rep.of {W : World} {B g : Nat} {ok : Nat → Prop} {p : PM} {v0 v1 va : Value} (h : RepV W B ok g p v0 v1 va) : Rep W B ok g p := ⟨_, _, _, h⟩
theorem Upd.next {W W1 W2 : World} {ok : Nat → Prop} (h : Upd W W1 ok) (k : Upd W1 W2 (fun k => ok k ∨ W.heap.size ≤ k)) : Upd W W2 ok := h.then_ k (fun j hj h2 => h2.elim id (fun h3 => by omega))
theorem write_false {q : PM} (hq : q.ok0) (h : q.write.2 = false) : (∃ a r, q.write.1.ar = a :: r) ∧ q.write.1.ok0 := by
  cases har : q.ar with
  | nil => unfold PM.write at h; rw [har] at h; simp at h
  | cons a r =>
    have e : q.write.1 = { q with wr := wrap64 (q.wr + 1), ar := (a.1 - 1, a.2) :: r } := by unfold PM.write; rw [har]
    rw [e]
    refine ⟨⟨_, _, rfl⟩, hq.h0, hq.h1, hq.l0, hq.l1, fun b hb => ?_⟩
    simp only [List.mem_cons] at hb
    rcases hb with rfl | hb
    · exact hq.hk a (har ▸ List.mem_cons_self)
    · exact hq.hk b (har ▸ List.mem_cons_of_mem _ hb)
theorem write_len (q : PM) : q.write.1.b0 = q.b0 ∧ q.write.1.b1 = q.b1 ∧ q.write.1.s0 = q.s0 ∧ q.write.1.s1 = q.s1 ∧ q.write.1.dn = q.dn := by
  unfold PM.write; split <;> simp
variable {W : World} {B g : Nat} {ok : Nat → Prop} {p : PM}
theorem append_no (h : Rep W B ok g p) (n : Int) (Ad : Option Addr) (cd : Nat) (data : List Int) (hb : badF n ∨ p.dn = true) : Calls Try.prog 14 #[.pointer (some ⟨g, 0, none⟩), .int .i64 n, .slice Ad data.length cd] W fun e W' => e = .returned (.int .i64 (p.append n data).2) ∧ Rep W' B (fun k => ok k ∨ W.heap.size ≤ k) g (p.append n data).1 ∧ Upd W W' ok := by
  have hg : Rep W B (fun k => ok k ∨ W.heap.size ≤ k) g p ∧ Upd W W ok := ⟨h.mono (fun _ hk => .inl hk), Upd.refl _ _⟩
  by_cases hb1 : badF n
  · have e : p.append n data = (p, 50) := by unfold PM.append; rw [if_pos hb1]
    rw [e]
    have HB := Aside0.mk (show n < 0 ∨ 2 ≤ n from hb1)
    clear h hb hb1 e
    go_enter Try.func14, Try.ntmps14
    go_wp2_with (go_at_call 32; (with_reducible refine (file_bad _ _ HB.out _).mono ?_); rintro e w' ⟨rfl, rfl⟩)
    go_ret
    exact ⟨rfl, hg⟩
  · have hd : p.dn = true := hb.resolve_left hb1
    have e : p.append n data = (p, 51) := by unfold PM.append; rw [if_neg hb1, if_pos hd]
    rw [e]
    obtain ⟨v0, v1, va, h⟩ := h
    have H := Aside0.mk h
    have HD := Aside0.mk hd
    have HN := Aside0.mk (badF_not hb1)
    clear h hb hb1 e hd
    go_enter Try.func14, Try.ntmps14
    go_wp2_with (go_at_call 32; (with_reducible refine (file_down _ (by have := HN.out; omega) (by have := HN.out; omega) H.out HD.out).mono ?_); rintro e w' ⟨rfl, rfl⟩)
    go_ret
    exact ⟨rfl, hg⟩
set_option maxHeartbeats 1000000 in
theorem append_0 (h : Rep W B ok g p) (hp : p.ok) (hBW : B ≤ W.heap.size) (hd : p.dn = false) (Ad : Option Addr) (cd : Nat) (data : List Int) (hC : Kd.C By W Ad data.length data) (hdl : data.length ≤ 140737488355328) :
    Calls Try.prog 14 #[.pointer (some ⟨g, 0, none⟩), .int .i64 0, .slice Ad data.length cd] W fun e W' => e = .returned (.int .i64 (p.append 0 data).2) ∧ Rep W' B (fun k => ok k ∨ W.heap.size ≤ k) g (p.append 0 data).1 ∧ Upd W W' ok := by
  have hnb : ¬ badF 0 := by unfold badF; omega
  have hnd : ¬ p.dn = true := by rw [hd]; simp
  obtain ⟨v0, v1, va, h⟩ := h
  obtain ⟨c0, c1, c2, c3, c4, c5, c6⟩ := dc_cells h.blk
  have hf := blk_frozen h.blk
  obtain ⟨A0, n0, rfl, hn0⟩ := Kd.R_slice_len h.r0
  obtain ⟨A1, n1, rfl, hn1⟩ := Kd.R_slice_len h.r1
  have l0 := hp.l0
  have l1 := hp.l1
  have H := Aside0.mk h
  have HD := Aside0.mk hd
  have HBW := Aside0.mk hBW
  have HC := Aside0.mk hC
  by_cases hfull : 16777216 < p.b0.length + data.length
  · have e : p.append 0 data = (p, 52) := by unfold PM.append; rw [if_neg hnb, if_neg hnd, if_pos (show 16777216 < (p.all 0).length + data.length from hfull)]
    rw [e]
    have d1 : decide ((16777216 : Int) < (p.b0.length : Int) + (data.length : Int)) = true := decide_eq_true (by omega)
    clear h hp e hnb hnd hd hBW hC hfull c1 c2 c3 c4 c5 c6
    go_enter Try.func14, Try.ntmps14
    go_wp2_with (first | (go_at_call 32; (with_reducible refine (file_up 0 (by omega) (by omega) H.out HD.out).mono ?_); rintro e w' ⟨rfl, rfl⟩))
    go_ret
    exact ⟨rfl, ⟨_, _, _, H.out.mono (fun _ hk => .inl hk)⟩, Upd.refl _ _⟩
  have d1 : decide ((16777216 : Int) < (p.b0.length : Int) + (data.length : Int)) = false := decide_eq_false (by omega)
  obtain ⟨q, hq⟩ : ∃ q : PM, q = { p with b0 := p.b0 ++ data } := ⟨_, rfl⟩
  have e : p.append 0 data = q.fin id := by unfold PM.append; rw [if_neg hnb, if_neg hnd, if_neg (show ¬ 16777216 < (p.all 0).length + data.length from hfull), hq]; rfl
  rw [e]
  have hqo : q.ok := by
    rw [hq]
    exact ⟨by have := hp.h0; simp only [List.length_append]; omega, hp.h1, by simp only [List.length_append]; omega, hp.l1, hp.la, hp.ha⟩
  have HQ := Aside0.mk hq
  have HQO := Aside0.mk hqo
  have HL := Aside0.mk (show (p.b0.length + data.length) * 1 ≤ 140737488355328 by omega)
  have HFR := Aside0.mk (show ∀ k, W.heap.size ≤ k → (ok k ∨ W.heap.size ≤ k) ∧ some k ≠ (.slice A1 p.b1.length n1 : Value).ownBlock from fun k hk => ⟨.inr hk, fun he => by have := Kd.R_lt h.r1 k he.symm; omega⟩)
  clear h hp e hnb hnd hd hBW hC hfull c1 c2 c3 c4 c5 c6 hq hqo
  cases hw : q.write.2 with
  | true =>
    have e : q.fin id = (q.write.1, 0) := by unfold PM.fin; rw [if_pos hw]; rfl
    rw [e]; clear e
    go_enter Try.func14, Try.ntmps14
    go_wp2_with (first | (go_at_call 32; (with_reducible refine (file_up 0 (by omega) (by omega) H.out HD.out).mono ?_); rintro e w' ⟨rfl, rfl⟩) | ((refine gate_builtin (b := .append) (xs := #[.tmp 31, .tmp 32]) rfl ?_); at_builtin; refine Kd.R_append_rows By (Rr := Kd.K By W) (w0 := W) B rfl (.tmp 31) (.tmp 32) 28 5 (.int .u8 0) 1 rfl Try.underlying28 G.info5 rfl (by decide) (by decide) (.slice A0 p.b0.length n0) p.b0 data Ad data.length cd (fun k => (ok k ∨ W.heap.size ≤ k) ∧ some k ≠ (.slice A1 p.b1.length n1 : Value).ownBlock) (fun _ => False) rfl rfl (Kd.R_mono H.out.r0 (fun _ hk => ⟨.inl hk.1, hk.2⟩)) HC.out (fun _ _ hk => hk) (fun _ hk => hk.elim) HFR.out (Below.refl _ _) HBW.out HL.out ?_; intro u1 w1 hr1 hb1 hg1 hat1; obtain ⟨A2, n2, rfl, hn2⟩ := Kd.R_slice_len hr1; have hbk := blk_grown H.out.blk hg1 (Kd.R_ne H.out.r0 H.out.blk (by decide)); have hh := H.out.app0 hr1 hg1 hat1; rw [← HQ.out, List.length_append] at hh; have HH := Aside0.mk hh.1; have HU := Aside0.mk hh.2; have hx : w1.cell? ⟨g, 0, none⟩ = some (.slice A0 p.b0.length n0) := (blk_cell hbk 0).trans rfl; have hf1 := blk_frozen hbk; clear hr1 hb1 hg1 hat1 hh hbk hn2) | (go_at_call 33; (with_reducible refine (write_calls (Rep.of HH.out) HQO.out).mono ?_); rintro e w2 ⟨rfl, hr2, hu2⟩; have HR2 := Aside0.mk hr2; have HU2 := Aside0.mk hu2; clear hr2 hu2 hx hf1))
    go_ret
    exact ⟨rfl, HR2.out, HU.out.next HU2.out⟩
  | false =>
    have e : q.fin id = (q.write.1.fall, 51) := by unfold PM.fin; rw [if_neg (by rw [hw]; simp)]
    rw [e]; clear e
    obtain ⟨⟨a_, r_, har⟩, hk0⟩ := write_false HQO.out.to0 hw
    have HAR := Aside0.mk har
    have HK := Aside0.mk hk0
    clear har hk0
    go_enter Try.func14, Try.ntmps14
    go_wp2_with (first | (go_at_call 32; (with_reducible refine (file_up 0 (by omega) (by omega) H.out HD.out).mono ?_); rintro e w' ⟨rfl, rfl⟩) | ((refine gate_builtin (b := .append) (xs := #[.tmp 31, .tmp 32]) rfl ?_); at_builtin; refine Kd.R_append_rows By (Rr := Kd.K By W) (w0 := W) B rfl (.tmp 31) (.tmp 32) 28 5 (.int .u8 0) 1 rfl Try.underlying28 G.info5 rfl (by decide) (by decide) (.slice A0 p.b0.length n0) p.b0 data Ad data.length cd (fun k => (ok k ∨ W.heap.size ≤ k) ∧ some k ≠ (.slice A1 p.b1.length n1 : Value).ownBlock) (fun _ => False) rfl rfl (Kd.R_mono H.out.r0 (fun _ hk => ⟨.inl hk.1, hk.2⟩)) HC.out (fun _ _ hk => hk) (fun _ hk => hk.elim) HFR.out (Below.refl _ _) HBW.out HL.out ?_; intro u1 w1 hr1 hb1 hg1 hat1; obtain ⟨A2, n2, rfl, hn2⟩ := Kd.R_slice_len hr1; have hbk := blk_grown H.out.blk hg1 (Kd.R_ne H.out.r0 H.out.blk (by decide)); have hh := H.out.app0 hr1 hg1 hat1; rw [← HQ.out, List.length_append] at hh; have HH := Aside0.mk hh.1; have HU := Aside0.mk hh.2; have hx : w1.cell? ⟨g, 0, none⟩ = some (.slice A0 p.b0.length n0) := (blk_cell hbk 0).trans rfl; have hf1 := blk_frozen hbk; clear hr1 hb1 hg1 hat1 hh hbk hn2) | (go_at_call 33; (with_reducible refine (write_calls (Rep.of HH.out) HQO.out).mono ?_); rintro e w2 ⟨rfl, hr2, hu2⟩; have HR2 := Aside0.mk hr2; have HU2 := Aside0.mk hu2; clear hr2 hu2 hx hf1) | (go_at_call 34; (with_reducible refine (fall_calls HR2.out HK.out HAR.out).mono ?_); rintro e w3 ⟨rfl, hr3, hu3⟩; have HR3 := Aside0.mk hr3; have HU3 := Aside0.mk hu3; clear hr3 hu3))
    go_ret
    exact ⟨rfl, HR3.out, (HU.out.next HU2.out).next HU3.out⟩
set_option maxHeartbeats 1000000 in
theorem append_1 (h : Rep W B ok g p) (hp : p.ok) (hBW : B ≤ W.heap.size) (hd : p.dn = false) (Ad : Option Addr) (cd : Nat) (data : List Int) (hC : Kd.C By W Ad data.length data) (hdl : data.length ≤ 140737488355328) :
    Calls Try.prog 14 #[.pointer (some ⟨g, 0, none⟩), .int .i64 1, .slice Ad data.length cd] W fun e W' => e = .returned (.int .i64 (p.append 1 data).2) ∧ Rep W' B (fun k => ok k ∨ W.heap.size ≤ k) g (p.append 1 data).1 ∧ Upd W W' ok := by
  have hnb : ¬ badF 1 := by unfold badF; omega
  have hnd : ¬ p.dn = true := by rw [hd]; simp
  obtain ⟨v0, v1, va, h⟩ := h
  obtain ⟨c0, c1, c2, c3, c4, c5, c6⟩ := dc_cells h.blk
  have hf := blk_frozen h.blk
  obtain ⟨A0, n0, rfl, hn0⟩ := Kd.R_slice_len h.r0
  obtain ⟨A1, n1, rfl, hn1⟩ := Kd.R_slice_len h.r1
  have l0 := hp.l0
  have l1 := hp.l1
  have H := Aside0.mk h
  have HD := Aside0.mk hd
  have HBW := Aside0.mk hBW
  have HC := Aside0.mk hC
  by_cases hfull : 16777216 < p.b1.length + data.length
  · have e : p.append 1 data = (p, 52) := by unfold PM.append; rw [if_neg hnb, if_neg hnd, if_pos (show 16777216 < (p.all 1).length + data.length from hfull)]
    rw [e]
    have d1 : decide ((16777216 : Int) < (p.b1.length : Int) + (data.length : Int)) = true := decide_eq_true (by omega)
    clear h hp e hnb hnd hd hBW hC hfull c0 c1 c3 c4 c5 c6
    go_enter Try.func14, Try.ntmps14
    go_wp2_with (first | (go_at_call 32; (with_reducible refine (file_up 1 (by omega) (by omega) H.out HD.out).mono ?_); rintro e w' ⟨rfl, rfl⟩))
    go_ret
    exact ⟨rfl, ⟨_, _, _, H.out.mono (fun _ hk => .inl hk)⟩, Upd.refl _ _⟩
  have d1 : decide ((16777216 : Int) < (p.b1.length : Int) + (data.length : Int)) = false := decide_eq_false (by omega)
  obtain ⟨q, hq⟩ : ∃ q : PM, q = { p with b1 := p.b1 ++ data } := ⟨_, rfl⟩
  have e : p.append 1 data = q.fin id := by unfold PM.append; rw [if_neg hnb, if_neg hnd, if_neg (show ¬ 16777216 < (p.all 1).length + data.length from hfull), hq]; rfl
  rw [e]
  have hqo : q.ok := by
    rw [hq]
    exact ⟨hp.h0, by have := hp.h1; simp only [List.length_append]; omega, hp.l0, by simp only [List.length_append]; omega, hp.la, hp.ha⟩
  have HQ := Aside0.mk hq
  have HQO := Aside0.mk hqo
  have HL := Aside0.mk (show (p.b1.length + data.length) * 1 ≤ 140737488355328 by omega)
  have HFR := Aside0.mk (show ∀ k, W.heap.size ≤ k → (ok k ∨ W.heap.size ≤ k) ∧ some k ≠ (.slice A0 p.b0.length n0 : Value).ownBlock from fun k hk => ⟨.inr hk, fun he => by have := Kd.R_lt h.r0 k he.symm; omega⟩)
  clear h hp e hnb hnd hd hBW hC hfull c0 c1 c3 c4 c5 c6 hq hqo
  cases hw : q.write.2 with
  | true =>
    have e : q.fin id = (q.write.1, 0) := by unfold PM.fin; rw [if_pos hw]; rfl
    rw [e]; clear e
    go_enter Try.func14, Try.ntmps14
    go_wp2_with (first | (go_at_call 32; (with_reducible refine (file_up 1 (by omega) (by omega) H.out HD.out).mono ?_); rintro e w' ⟨rfl, rfl⟩) | ((refine gate_builtin (b := .append) (xs := #[.tmp 31, .tmp 32]) rfl ?_); at_builtin; refine Kd.R_append_rows By (Rr := Kd.K By W) (w0 := W) B rfl (.tmp 31) (.tmp 32) 28 5 (.int .u8 0) 1 rfl Try.underlying28 G.info5 rfl (by decide) (by decide) (.slice A1 p.b1.length n1) p.b1 data Ad data.length cd (fun k => (ok k ∨ W.heap.size ≤ k) ∧ some k ≠ (.slice A0 p.b0.length n0 : Value).ownBlock) (fun _ => False) rfl rfl (Kd.R_mono H.out.r1 (fun _ hk => ⟨.inl hk.1, hk.2⟩)) HC.out (fun _ _ hk => hk) (fun _ hk => hk.elim) HFR.out (Below.refl _ _) HBW.out HL.out ?_; intro u1 w1 hr1 hb1 hg1 hat1; obtain ⟨A2, n2, rfl, hn2⟩ := Kd.R_slice_len hr1; have hbk := blk_grown H.out.blk hg1 (Kd.R_ne H.out.r1 H.out.blk (by decide)); have hh := H.out.app1 hr1 hg1 hat1; rw [← HQ.out, List.length_append] at hh; have HH := Aside0.mk hh.1; have HU := Aside0.mk hh.2; have hx : w1.cell? ⟨g, 2, none⟩ = some (.slice A1 p.b1.length n1) := (blk_cell hbk 2).trans rfl; have hf1 := blk_frozen hbk; clear hr1 hb1 hg1 hat1 hh hbk hn2) | (go_at_call 33; (with_reducible refine (write_calls (Rep.of HH.out) HQO.out).mono ?_); rintro e w2 ⟨rfl, hr2, hu2⟩; have HR2 := Aside0.mk hr2; have HU2 := Aside0.mk hu2; clear hr2 hu2 hx hf1))
    go_ret
    exact ⟨rfl, HR2.out, HU.out.next HU2.out⟩
  | false =>
    have e : q.fin id = (q.write.1.fall, 51) := by unfold PM.fin; rw [if_neg (by rw [hw]; simp)]
    rw [e]; clear e
    obtain ⟨⟨a_, r_, har⟩, hk0⟩ := write_false HQO.out.to0 hw
    have HAR := Aside0.mk har
    have HK := Aside0.mk hk0
    clear har hk0
    go_enter Try.func14, Try.ntmps14
    go_wp2_with (first | (go_at_call 32; (with_reducible refine (file_up 1 (by omega) (by omega) H.out HD.out).mono ?_); rintro e w' ⟨rfl, rfl⟩) | ((refine gate_builtin (b := .append) (xs := #[.tmp 31, .tmp 32]) rfl ?_); at_builtin; refine Kd.R_append_rows By (Rr := Kd.K By W) (w0 := W) B rfl (.tmp 31) (.tmp 32) 28 5 (.int .u8 0) 1 rfl Try.underlying28 G.info5 rfl (by decide) (by decide) (.slice A1 p.b1.length n1) p.b1 data Ad data.length cd (fun k => (ok k ∨ W.heap.size ≤ k) ∧ some k ≠ (.slice A0 p.b0.length n0 : Value).ownBlock) (fun _ => False) rfl rfl (Kd.R_mono H.out.r1 (fun _ hk => ⟨.inl hk.1, hk.2⟩)) HC.out (fun _ _ hk => hk) (fun _ hk => hk.elim) HFR.out (Below.refl _ _) HBW.out HL.out ?_; intro u1 w1 hr1 hb1 hg1 hat1; obtain ⟨A2, n2, rfl, hn2⟩ := Kd.R_slice_len hr1; have hbk := blk_grown H.out.blk hg1 (Kd.R_ne H.out.r1 H.out.blk (by decide)); have hh := H.out.app1 hr1 hg1 hat1; rw [← HQ.out, List.length_append] at hh; have HH := Aside0.mk hh.1; have HU := Aside0.mk hh.2; have hx : w1.cell? ⟨g, 2, none⟩ = some (.slice A1 p.b1.length n1) := (blk_cell hbk 2).trans rfl; have hf1 := blk_frozen hbk; clear hr1 hb1 hg1 hat1 hh hbk hn2) | (go_at_call 33; (with_reducible refine (write_calls (Rep.of HH.out) HQO.out).mono ?_); rintro e w2 ⟨rfl, hr2, hu2⟩; have HR2 := Aside0.mk hr2; have HU2 := Aside0.mk hu2; clear hr2 hu2 hx hf1) | (go_at_call 34; (with_reducible refine (fall_calls HR2.out HK.out HAR.out).mono ?_); rintro e w3 ⟨rfl, hr3, hu3⟩; have HR3 := Aside0.mk hr3; have HU3 := Aside0.mk hu3; clear hr3 hu3))
    go_ret
    exact ⟨rfl, HR3.out, (HU.out.next HU2.out).next HU3.out⟩
theorem append_calls (h : Rep W B ok g p) (hp : p.ok) (hBW : B ≤ W.heap.size) (n : Int) (Ad : Option Addr) (cd : Nat) (data : List Int) (hC : Kd.C By W Ad data.length data) (hdl : data.length ≤ 140737488355328) : Calls Try.prog 14 #[.pointer (some ⟨g, 0, none⟩), .int .i64 n, .slice Ad data.length cd] W fun e W' => e = .returned (.int .i64 (p.append n data).2) ∧ Rep W' B (fun k => ok k ∨ W.heap.size ≤ k) g (p.append n data).1 ∧ Upd W W' ok := by
  by_cases hb : badF n ∨ p.dn = true
  · exact append_no h n Ad cd data hb
  · have hd : p.dn = false := by cases hd : p.dn with | true => exact absurd (.inr hd) hb | false => rfl
    rcases badF_not (fun h_ => hb (.inl h_)) with rfl | rfl
    · exact append_0 h hp hBW hd Ad cd data hC hdl
    · exact append_1 h hp hBW hd Ad cd data hC hdl
theorem sync_no (h : Rep W B ok g p) (n : Int) (hb : badF n ∨ p.dn = true) : Calls Try.prog 28 #[.pointer (some ⟨g, 0, none⟩), .int .i64 n] W fun e W' => e = .returned (.int .i64 (p.syncf n).2) ∧ Rep W' B (fun k => ok k ∨ W.heap.size ≤ k) g (p.syncf n).1 ∧ Upd W W' ok := by
  have hg : Rep W B (fun k => ok k ∨ W.heap.size ≤ k) g p ∧ Upd W W ok := ⟨h.mono (fun _ hk => .inl hk), Upd.refl _ _⟩
  by_cases hb1 : badF n
  · have e : p.syncf n = (p, 50) := by unfold PM.syncf; rw [if_pos hb1]
    rw [e]
    have HB := Aside0.mk (show n < 0 ∨ 2 ≤ n from hb1)
    clear h hb hb1 e
    go_enter Try.func28, Try.ntmps28
    go_wp2_with (go_at_call 32; (with_reducible refine (file_bad _ _ HB.out _).mono ?_); rintro e w' ⟨rfl, rfl⟩)
    go_ret
    exact ⟨rfl, hg⟩
  · have hd : p.dn = true := hb.resolve_left hb1
    have e : p.syncf n = (p, 51) := by unfold PM.syncf; rw [if_neg hb1, if_pos hd]
    rw [e]
    obtain ⟨v0, v1, va, h⟩ := h
    have H := Aside0.mk h
    have HD := Aside0.mk hd
    have HN := Aside0.mk (badF_not hb1)
    clear h hb hb1 e hd
    go_enter Try.func28, Try.ntmps28
    go_wp2_with (go_at_call 32; (with_reducible refine (file_down _ (by have := HN.out; omega) (by have := HN.out; omega) H.out HD.out).mono ?_); rintro e w' ⟨rfl, rfl⟩)
    go_ret
    exact ⟨rfl, hg⟩
set_option maxHeartbeats 1000000 in
theorem sync_0 (h : Rep W B ok g p) (hp : p.ok) (hd : p.dn = false) :
    Calls Try.prog 28 #[.pointer (some ⟨g, 0, none⟩), .int .i64 0] W fun e W' => e = .returned (.int .i64 (p.syncf 0).2) ∧ Rep W' B (fun k => ok k ∨ W.heap.size ≤ k) g (p.syncf 0).1 ∧ Upd W W' ok := by
  have hnb : ¬ badF 0 := by unfold badF; omega
  have hnd : ¬ p.dn = true := by rw [hd]; simp
  obtain ⟨v0, v1, va, h⟩ := h
  have H := Aside0.mk h
  have HD := Aside0.mk hd
  have HP := Aside0.mk hp
  have e : p.syncf 0 = p.fin (fun q => q.setS 0 (q.all 0).length) := by unfold PM.syncf; rw [if_neg hnb, if_neg hnd]
  rw [e]
  clear h hp e hnb hnd hd
  cases hw : p.write.2 with
  | true =>
    have e : p.fin (fun q => q.setS 0 (q.all 0).length) = ({ p.write.1 with s0 := p.write.1.b0.length }, 0) := by unfold PM.fin; rw [if_pos hw]; rfl
    rw [e]; clear e
    go_enter Try.func28, Try.ntmps28
    go_wp2_with (first | (go_at_call 32; (with_reducible refine (file_up 0 (by omega) (by omega) H.out HD.out).mono ?_); rintro e w' ⟨rfl, rfl⟩) | (go_at_call 33; (with_reducible refine (write_calls (Rep.of H.out) HP.out).mono ?_); rintro e w2 ⟨rfl, ⟨u0, u1, ua, hr2⟩, hu2⟩; obtain ⟨A0, n0, rfl, hn0⟩ := Kd.R_slice_len hr2.r0; obtain ⟨A1, n1, rfl, hn1⟩ := Kd.R_slice_len hr2.r1; obtain ⟨c0, c1, c2, c3, c4, c5, c6⟩ := dc_cells hr2.blk; have hf2 := blk_frozen hr2.blk; have HR2 := Aside0.mk hr2; have HU2 := Aside0.mk hu2; clear hr2 hu2 hn0 hn1))
    go_ret
    exact ⟨rfl, ⟨_, _, _, (HR2.out.set_s0 _).mono (fun _ hk => .inl hk)⟩, HU2.out.setCell (fun _ => HR2.out.okg) _⟩
  | false =>
    have e : p.fin (fun q => q.setS 0 (q.all 0).length) = (p.write.1.fall, 51) := by unfold PM.fin; rw [if_neg (by rw [hw]; simp)]
    rw [e]; clear e
    obtain ⟨⟨a_, r_, har⟩, hk0⟩ := write_false HP.out.to0 hw
    have HAR := Aside0.mk har
    have HK := Aside0.mk hk0
    clear har hk0
    go_enter Try.func28, Try.ntmps28
    go_wp2_with (first | (go_at_call 32; (with_reducible refine (file_up 0 (by omega) (by omega) H.out HD.out).mono ?_); rintro e w' ⟨rfl, rfl⟩) | (go_at_call 33; (with_reducible refine (write_calls (Rep.of H.out) HP.out).mono ?_); rintro e w2 ⟨rfl, hr2, hu2⟩; have HR2 := Aside0.mk hr2; have HU2 := Aside0.mk hu2; clear hr2 hu2) | (go_at_call 34; (with_reducible refine (fall_calls HR2.out HK.out HAR.out).mono ?_); rintro e w3 ⟨rfl, hr3, hu3⟩; have HR3 := Aside0.mk hr3; have HU3 := Aside0.mk hu3; clear hr3 hu3))
    go_ret
    exact ⟨rfl, HR3.out.mono (fun _ hk => .inl hk), HU2.out.then_ HU3.out (fun _ _ hk => hk)⟩
set_option maxHeartbeats 1000000 in
theorem sync_1 (h : Rep W B ok g p) (hp : p.ok) (hd : p.dn = false) :
    Calls Try.prog 28 #[.pointer (some ⟨g, 0, none⟩), .int .i64 1] W fun e W' => e = .returned (.int .i64 (p.syncf 1).2) ∧ Rep W' B (fun k => ok k ∨ W.heap.size ≤ k) g (p.syncf 1).1 ∧ Upd W W' ok := by
  have hnb : ¬ badF 1 := by unfold badF; omega
  have hnd : ¬ p.dn = true := by rw [hd]; simp
  obtain ⟨v0, v1, va, h⟩ := h
  have H := Aside0.mk h
  have HD := Aside0.mk hd
  have HP := Aside0.mk hp
  have e : p.syncf 1 = p.fin (fun q => q.setS 1 (q.all 1).length) := by unfold PM.syncf; rw [if_neg hnb, if_neg hnd]
  rw [e]
  clear h hp e hnb hnd hd
  cases hw : p.write.2 with
  | true =>
    have e : p.fin (fun q => q.setS 1 (q.all 1).length) = ({ p.write.1 with s1 := p.write.1.b1.length }, 0) := by unfold PM.fin; rw [if_pos hw]; rfl
    rw [e]; clear e
    go_enter Try.func28, Try.ntmps28
    go_wp2_with (first | (go_at_call 32; (with_reducible refine (file_up 1 (by omega) (by omega) H.out HD.out).mono ?_); rintro e w' ⟨rfl, rfl⟩) | (go_at_call 33; (with_reducible refine (write_calls (Rep.of H.out) HP.out).mono ?_); rintro e w2 ⟨rfl, ⟨u0, u1, ua, hr2⟩, hu2⟩; obtain ⟨A0, n0, rfl, hn0⟩ := Kd.R_slice_len hr2.r0; obtain ⟨A1, n1, rfl, hn1⟩ := Kd.R_slice_len hr2.r1; obtain ⟨c0, c1, c2, c3, c4, c5, c6⟩ := dc_cells hr2.blk; have hf2 := blk_frozen hr2.blk; have HR2 := Aside0.mk hr2; have HU2 := Aside0.mk hu2; clear hr2 hu2 hn0 hn1))
    go_ret
    exact ⟨rfl, ⟨_, _, _, (HR2.out.set_s1 _).mono (fun _ hk => .inl hk)⟩, HU2.out.setCell (fun _ => HR2.out.okg) _⟩
  | false =>
    have e : p.fin (fun q => q.setS 1 (q.all 1).length) = (p.write.1.fall, 51) := by unfold PM.fin; rw [if_neg (by rw [hw]; simp)]
    rw [e]; clear e
    obtain ⟨⟨a_, r_, har⟩, hk0⟩ := write_false HP.out.to0 hw
    have HAR := Aside0.mk har
    have HK := Aside0.mk hk0
    clear har hk0
    go_enter Try.func28, Try.ntmps28
    go_wp2_with (first | (go_at_call 32; (with_reducible refine (file_up 1 (by omega) (by omega) H.out HD.out).mono ?_); rintro e w' ⟨rfl, rfl⟩) | (go_at_call 33; (with_reducible refine (write_calls (Rep.of H.out) HP.out).mono ?_); rintro e w2 ⟨rfl, hr2, hu2⟩; have HR2 := Aside0.mk hr2; have HU2 := Aside0.mk hu2; clear hr2 hu2) | (go_at_call 34; (with_reducible refine (fall_calls HR2.out HK.out HAR.out).mono ?_); rintro e w3 ⟨rfl, hr3, hu3⟩; have HR3 := Aside0.mk hr3; have HU3 := Aside0.mk hu3; clear hr3 hu3))
    go_ret
    exact ⟨rfl, HR3.out.mono (fun _ hk => .inl hk), HU2.out.then_ HU3.out (fun _ _ hk => hk)⟩
theorem sync_calls (h : Rep W B ok g p) (hp : p.ok) (hBW : B ≤ W.heap.size) (n : Int) : Calls Try.prog 28 #[.pointer (some ⟨g, 0, none⟩), .int .i64 n] W fun e W' => e = .returned (.int .i64 (p.syncf n).2) ∧ Rep W' B (fun k => ok k ∨ W.heap.size ≤ k) g (p.syncf n).1 ∧ Upd W W' ok := by
  by_cases hb : badF n ∨ p.dn = true
  · exact sync_no h n hb
  · have hd : p.dn = false := by cases hd : p.dn with | true => exact absurd (.inr hd) hb | false => rfl
    rcases badF_not (fun h_ => hb (.inl h_)) with rfl | rfl
    · exact sync_0 h hp hd
    · exact sync_1 h hp hd
theorem trunc_no (h : Rep W B ok g p) (n : Int) (size : Int) (hb : badF n ∨ p.dn = true) : Calls Try.prog 44 #[.pointer (some ⟨g, 0, none⟩), .int .i64 n, .int .i64 size] W fun e W' => e = .returned (.int .i64 (p.trunc n size).2) ∧ Rep W' B (fun k => ok k ∨ W.heap.size ≤ k) g (p.trunc n size).1 ∧ Upd W W' ok := by
  have hg : Rep W B (fun k => ok k ∨ W.heap.size ≤ k) g p ∧ Upd W W ok := ⟨h.mono (fun _ hk => .inl hk), Upd.refl _ _⟩
  by_cases hb1 : badF n
  · have e : p.trunc n size = (p, 50) := by unfold PM.trunc; rw [if_pos hb1]
    rw [e]
    have HB := Aside0.mk (show n < 0 ∨ 2 ≤ n from hb1)
    clear h hb hb1 e
    go_enter Try.func44, Try.ntmps44
    go_wp2_with (go_at_call 32; (with_reducible refine (file_bad _ _ HB.out _).mono ?_); rintro e w' ⟨rfl, rfl⟩)
    go_ret
    exact ⟨rfl, hg⟩
  · have hd : p.dn = true := hb.resolve_left hb1
    have e : p.trunc n size = (p, 51) := by unfold PM.trunc; rw [if_neg hb1, if_pos hd]
    rw [e]
    obtain ⟨v0, v1, va, h⟩ := h
    have H := Aside0.mk h
    have HD := Aside0.mk hd
    have HN := Aside0.mk (badF_not hb1)
    clear h hb hb1 e hd
    go_enter Try.func44, Try.ntmps44
    go_wp2_with (go_at_call 32; (with_reducible refine (file_down _ (by have := HN.out; omega) (by have := HN.out; omega) H.out HD.out).mono ?_); rintro e w' ⟨rfl, rfl⟩)
    go_ret
    exact ⟨rfl, hg⟩
set_option maxHeartbeats 1000000 in
theorem trunc_0 (h : Rep W B ok g p) (hp : p.ok) (hd : p.dn = false) (size : Int) :
    Calls Try.prog 44 #[.pointer (some ⟨g, 0, none⟩), .int .i64 0, .int .i64 size] W fun e W' => e = .returned (.int .i64 (p.trunc 0 size).2) ∧ Rep W' B (fun k => ok k ∨ W.heap.size ≤ k) g (p.trunc 0 size).1 ∧ Upd W W' ok := by
  have hnb : ¬ badF 0 := by unfold badF; omega
  have hnd : ¬ p.dn = true := by rw [hd]; simp
  obtain ⟨v0, v1, va, h⟩ := h
  obtain ⟨c0, c1, c2, c3, c4, c5, c6⟩ := dc_cells h.blk
  obtain ⟨A0, n0, rfl, hn0⟩ := Kd.R_slice_len h.r0
  obtain ⟨A1, n1, rfl, hn1⟩ := Kd.R_slice_len h.r1
  have H := Aside0.mk h
  have HD := Aside0.mk hd
  have HP := Aside0.mk hp
  by_cases hs : size < 0
  · have e : p.trunc 0 size = (p, 2) := by unfold PM.trunc; rw [if_neg hnb, if_neg hnd, if_pos (.inl hs)]
    rw [e]
    have d1 : decide (size < 0) = true := decide_eq_true hs
    clear h hp e hnb hnd hd hs c0 c1 c2 c3 c4 c5 c6 hn0 hn1
    go_enter Try.func44, Try.ntmps44
    go_wp2_with (first | (go_at_call 32; (with_reducible refine (file_up 0 (by omega) (by omega) H.out HD.out).mono ?_); rintro e w' ⟨rfl, rfl⟩))
    go_ret
    exact ⟨rfl, ⟨_, _, _, H.out.mono (fun _ hk => .inl hk)⟩, Upd.refl _ _⟩
  have d1 : decide (size < 0) = false := decide_eq_false hs
  by_cases hs2 : (p.b0.length : Int) < size
  · have e : p.trunc 0 size = (p, 2) := by unfold PM.trunc; rw [if_neg hnb, if_neg hnd, if_pos (.inr hs2)]
    rw [e]
    have d2 : decide ((p.b0.length : Int) < size) = true := decide_eq_true hs2
    clear h hp e hnb hnd hd hs hs2 c1 c2 c3 c4 c5 c6 hn0 hn1
    go_enter Try.func44, Try.ntmps44
    go_wp2_with (first | (go_at_call 32; (with_reducible refine (file_up 0 (by omega) (by omega) H.out HD.out).mono ?_); rintro e w' ⟨rfl, rfl⟩))
    go_ret
    exact ⟨rfl, ⟨_, _, _, H.out.mono (fun _ hk => .inl hk)⟩, Upd.refl _ _⟩
  have d2 : decide ((p.b0.length : Int) < size) = false := decide_eq_false hs2
  obtain ⟨m, rfl⟩ : ∃ m : Nat, size = (m : Int) := Int.eq_ofNat_of_zero_le (by omega)
  have e : p.trunc 0 m = p.fin (fun q => (q.setB 0 ((q.all 0).take m)).setS 0 m) := by unfold PM.trunc; rw [if_neg hnb, if_neg hnd, if_neg (show ¬ ((m : Int) < 0 ∨ ((p.all 0).length : Int) < m) from fun h_ => h_.elim hs hs2), Int.toNat_natCast]
  rw [e]
  have HS := Aside0.mk (show m ≤ p.b0.length by omega)
  have d3 : decide (p.b0.length < m) = false := decide_eq_false (by omega)
  clear h hp e hnb hnd hd hs hs2 c1 c2 c3 c4 c5 c6 hn0 hn1
  cases hw : p.write.2 with
  | true =>
    have e : p.fin (fun q => (q.setB 0 ((q.all 0).take m)).setS 0 m) = ({ p.write.1 with b0 := p.write.1.b0.take m, s0 := m }, 0) := by unfold PM.fin; rw [if_pos hw]; rfl
    rw [e]; clear e
    have hlen := write_len p
    have HLEN := Aside0.mk hlen
    clear hlen
    go_enter Try.func44, Try.ntmps44
    go_wp2_with (first | (go_at_call 32; (with_reducible refine (file_up 0 (by omega) (by omega) H.out HD.out).mono ?_); rintro e w' ⟨rfl, rfl⟩) | (go_at_call 33; (with_reducible refine (write_calls (Rep.of H.out) HP.out).mono ?_); rintro e w2 ⟨rfl, ⟨u0, u1, ua, hr2⟩, hu2⟩; clear c0; obtain ⟨B0, m0, rfl, hm0⟩ := Kd.R_slice_len hr2.r0; obtain ⟨B1, m1, rfl, hm1⟩ := Kd.R_slice_len hr2.r1; obtain ⟨c0, c1, c2, c3, c4, c5, c6⟩ := dc_cells hr2.blk; have hf2 := blk_frozen hr2.blk; have HR2 := Aside0.mk hr2; have HU2 := Aside0.mk hu2; obtain ⟨i0_, hi0_, _, _, _⟩ := info_parts G.info5; have hle : m ≤ p.write.1.b0.length := (by rw [HLEN.out.1]; exact HS.out); have hcut := cut_to (P := Try.prog) 28 5 .i64 Try.underlying28 hi0_ B0 p.write.1.b0.length m0 (m : Int) (by omega) (by omega) hm0; rw [Int.toNat_natCast] at hcut; have HLE := Aside0.mk hle; clear hr2 hu2 hm0 hm1 hi0_ hle c2 c3 c4 c5 c6))
    go_ret
    exact ⟨rfl, ⟨_, _, _, ((HR2.out.cut0 m HLE.out).set_s0 m).mono (fun _ hk => .inl hk)⟩, (HU2.out.setCell (fun _ => HR2.out.okg) _).setCell (fun _ => HR2.out.okg) _⟩
  | false =>
    have e : p.fin (fun q => (q.setB 0 ((q.all 0).take m)).setS 0 m) = (p.write.1.fall, 51) := by unfold PM.fin; rw [if_neg (by rw [hw]; simp)]
    rw [e]; clear e
    obtain ⟨⟨a_, r_, har⟩, hk0⟩ := write_false HP.out.to0 hw
    have HAR := Aside0.mk har
    have HK := Aside0.mk hk0
    clear har hk0
    go_enter Try.func44, Try.ntmps44
    go_wp2_with (first | (go_at_call 32; (with_reducible refine (file_up 0 (by omega) (by omega) H.out HD.out).mono ?_); rintro e w' ⟨rfl, rfl⟩) | (go_at_call 33; (with_reducible refine (write_calls (Rep.of H.out) HP.out).mono ?_); rintro e w2 ⟨rfl, hr2, hu2⟩; have HR2 := Aside0.mk hr2; have HU2 := Aside0.mk hu2; clear hr2 hu2) | (go_at_call 34; (with_reducible refine (fall_calls HR2.out HK.out HAR.out).mono ?_); rintro e w3 ⟨rfl, hr3, hu3⟩; have HR3 := Aside0.mk hr3; have HU3 := Aside0.mk hu3; clear hr3 hu3))
    go_ret
    exact ⟨rfl, HR3.out.mono (fun _ hk => .inl hk), HU2.out.then_ HU3.out (fun _ _ hk => hk)⟩
set_option maxHeartbeats 1000000 in
theorem trunc_1 (h : Rep W B ok g p) (hp : p.ok) (hd : p.dn = false) (size : Int) :
    Calls Try.prog 44 #[.pointer (some ⟨g, 0, none⟩), .int .i64 1, .int .i64 size] W fun e W' => e = .returned (.int .i64 (p.trunc 1 size).2) ∧ Rep W' B (fun k => ok k ∨ W.heap.size ≤ k) g (p.trunc 1 size).1 ∧ Upd W W' ok := by
  have hnb : ¬ badF 1 := by unfold badF; omega
  have hnd : ¬ p.dn = true := by rw [hd]; simp
  obtain ⟨v0, v1, va, h⟩ := h
  obtain ⟨c0, c1, c2, c3, c4, c5, c6⟩ := dc_cells h.blk
  obtain ⟨A0, n0, rfl, hn0⟩ := Kd.R_slice_len h.r0
  obtain ⟨A1, n1, rfl, hn1⟩ := Kd.R_slice_len h.r1
  have H := Aside0.mk h
  have HD := Aside0.mk hd
  have HP := Aside0.mk hp
  by_cases hs : size < 0
  · have e : p.trunc 1 size = (p, 2) := by unfold PM.trunc; rw [if_neg hnb, if_neg hnd, if_pos (.inl hs)]
    rw [e]
    have d1 : decide (size < 0) = true := decide_eq_true hs
    clear h hp e hnb hnd hd hs c0 c1 c2 c3 c4 c5 c6 hn0 hn1
    go_enter Try.func44, Try.ntmps44
    go_wp2_with (first | (go_at_call 32; (with_reducible refine (file_up 1 (by omega) (by omega) H.out HD.out).mono ?_); rintro e w' ⟨rfl, rfl⟩))
    go_ret
    exact ⟨rfl, ⟨_, _, _, H.out.mono (fun _ hk => .inl hk)⟩, Upd.refl _ _⟩
  have d1 : decide (size < 0) = false := decide_eq_false hs
  by_cases hs2 : (p.b1.length : Int) < size
  · have e : p.trunc 1 size = (p, 2) := by unfold PM.trunc; rw [if_neg hnb, if_neg hnd, if_pos (.inr hs2)]
    rw [e]
    have d2 : decide ((p.b1.length : Int) < size) = true := decide_eq_true hs2
    clear h hp e hnb hnd hd hs hs2 c0 c1 c3 c4 c5 c6 hn0 hn1
    go_enter Try.func44, Try.ntmps44
    go_wp2_with (first | (go_at_call 32; (with_reducible refine (file_up 1 (by omega) (by omega) H.out HD.out).mono ?_); rintro e w' ⟨rfl, rfl⟩))
    go_ret
    exact ⟨rfl, ⟨_, _, _, H.out.mono (fun _ hk => .inl hk)⟩, Upd.refl _ _⟩
  have d2 : decide ((p.b1.length : Int) < size) = false := decide_eq_false hs2
  obtain ⟨m, rfl⟩ : ∃ m : Nat, size = (m : Int) := Int.eq_ofNat_of_zero_le (by omega)
  have e : p.trunc 1 m = p.fin (fun q => (q.setB 1 ((q.all 1).take m)).setS 1 m) := by unfold PM.trunc; rw [if_neg hnb, if_neg hnd, if_neg (show ¬ ((m : Int) < 0 ∨ ((p.all 1).length : Int) < m) from fun h_ => h_.elim hs hs2), Int.toNat_natCast]
  rw [e]
  have HS := Aside0.mk (show m ≤ p.b1.length by omega)
  have d3 : decide (p.b1.length < m) = false := decide_eq_false (by omega)
  clear h hp e hnb hnd hd hs hs2 c0 c1 c3 c4 c5 c6 hn0 hn1
  cases hw : p.write.2 with
  | true =>
    have e : p.fin (fun q => (q.setB 1 ((q.all 1).take m)).setS 1 m) = ({ p.write.1 with b1 := p.write.1.b1.take m, s1 := m }, 0) := by unfold PM.fin; rw [if_pos hw]; rfl
    rw [e]; clear e
    have hlen := write_len p
    have HLEN := Aside0.mk hlen
    clear hlen
    go_enter Try.func44, Try.ntmps44
    go_wp2_with (first | (go_at_call 32; (with_reducible refine (file_up 1 (by omega) (by omega) H.out HD.out).mono ?_); rintro e w' ⟨rfl, rfl⟩) | (go_at_call 33; (with_reducible refine (write_calls (Rep.of H.out) HP.out).mono ?_); rintro e w2 ⟨rfl, ⟨u0, u1, ua, hr2⟩, hu2⟩; clear c2; obtain ⟨B0, m0, rfl, hm0⟩ := Kd.R_slice_len hr2.r0; obtain ⟨B1, m1, rfl, hm1⟩ := Kd.R_slice_len hr2.r1; obtain ⟨c0, c1, c2, c3, c4, c5, c6⟩ := dc_cells hr2.blk; have hf2 := blk_frozen hr2.blk; have HR2 := Aside0.mk hr2; have HU2 := Aside0.mk hu2; obtain ⟨i0_, hi0_, _, _, _⟩ := info_parts G.info5; have hle : m ≤ p.write.1.b1.length := (by rw [HLEN.out.2.1]; exact HS.out); have hcut := cut_to (P := Try.prog) 28 5 .i64 Try.underlying28 hi0_ B1 p.write.1.b1.length m1 (m : Int) (by omega) (by omega) hm1; rw [Int.toNat_natCast] at hcut; have HLE := Aside0.mk hle; clear hr2 hu2 hm0 hm1 hi0_ hle c0 c1 c4 c5 c6))
    go_ret
    exact ⟨rfl, ⟨_, _, _, ((HR2.out.cut1 m HLE.out).set_s1 m).mono (fun _ hk => .inl hk)⟩, (HU2.out.setCell (fun _ => HR2.out.okg) _).setCell (fun _ => HR2.out.okg) _⟩
  | false =>
    have e : p.fin (fun q => (q.setB 1 ((q.all 1).take m)).setS 1 m) = (p.write.1.fall, 51) := by unfold PM.fin; rw [if_neg (by rw [hw]; simp)]
    rw [e]; clear e
    obtain ⟨⟨a_, r_, har⟩, hk0⟩ := write_false HP.out.to0 hw
    have HAR := Aside0.mk har
    have HK := Aside0.mk hk0
    clear har hk0
    go_enter Try.func44, Try.ntmps44
    go_wp2_with (first | (go_at_call 32; (with_reducible refine (file_up 1 (by omega) (by omega) H.out HD.out).mono ?_); rintro e w' ⟨rfl, rfl⟩) | (go_at_call 33; (with_reducible refine (write_calls (Rep.of H.out) HP.out).mono ?_); rintro e w2 ⟨rfl, hr2, hu2⟩; have HR2 := Aside0.mk hr2; have HU2 := Aside0.mk hu2; clear hr2 hu2) | (go_at_call 34; (with_reducible refine (fall_calls HR2.out HK.out HAR.out).mono ?_); rintro e w3 ⟨rfl, hr3, hu3⟩; have HR3 := Aside0.mk hr3; have HU3 := Aside0.mk hu3; clear hr3 hu3))
    go_ret
    exact ⟨rfl, HR3.out.mono (fun _ hk => .inl hk), HU2.out.then_ HU3.out (fun _ _ hk => hk)⟩
theorem trunc_calls (h : Rep W B ok g p) (hp : p.ok) (hBW : B ≤ W.heap.size) (n : Int) (size : Int) : Calls Try.prog 44 #[.pointer (some ⟨g, 0, none⟩), .int .i64 n, .int .i64 size] W fun e W' => e = .returned (.int .i64 (p.trunc n size).2) ∧ Rep W' B (fun k => ok k ∨ W.heap.size ≤ k) g (p.trunc n size).1 ∧ Upd W W' ok := by
  by_cases hb : badF n ∨ p.dn = true
  · exact trunc_no h n size hb
  · have hd : p.dn = false := by cases hd : p.dn with | true => exact absurd (.inr hd) hb | false => rfl
    rcases badF_not (fun h_ => hb (.inl h_)) with rfl | rfl
    · exact trunc_0 h hp hd size
    · exact trunc_1 h hp hd size
end Go.Proofs.Yticokogggepfoaa.D
