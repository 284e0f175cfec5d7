/- look: both disks read alike, twice; the first answer is kept. Printed by mk_look.py. -/
import Derived.Test.YticokogggepfoaaMB
namespace Go.Proofs.Yticokogggepfoaa.D
open Go.RowKit Go.Proofs.YticokogggepfoaaW.PrintWords Go.Proofs.YticokogggepfoaaW.PrintLast Go.Proofs.YticokogggepfoaaW.PrintMore Go.Proofs.Yticokogggepfoaa.G
attribute [local go_sem] max2_int min2_int max_two min_two max_three min_three max_four min_four
set_option linter.unusedVariables false
set_option linter.unusedSimpArgs false
set_option maxRecDepth 100000
/-- A row of a call's own, its blocks between two marks of the heap. -/
structure Rg (w : World) (a b : Nat) (v : Value) (l : List Int) : Prop where
  row : Kd.R By 5 w a (fun k => a ≤ k ∧ k < b) v l
  hi : b ≤ w.heap.size
theorem rg_fresh {W w : World} {l : List Int} {v : Value} (h : Fresh W l v w) : Rg w W.heap.size w.heap.size v l := ⟨Kd.R_mono (Kd.R_bound h.1) (fun k hk => ⟨hk.2.1, hk.2.2.1⟩), Nat.le_refl _⟩
theorem Rg.next {w w' : World} {a b : Nat} {v : Value} {l : List Int} (h : Rg w a b v l) (hb : Below w.heap.size w w') : Rg w' a b v l := ⟨row_below h.row hb, Nat.le_trans h.hi hb.size⟩
theorem Rg.upd {w w' : World} {a b : Nat} {v : Value} {l : List Int} {S : Nat → Prop} (h : Rg w a b v l) (hu : Upd w w' S) (hS : ∀ k, a ≤ k → k < b → ¬ S k) : Rg w' a b v l := ⟨row_upd h.row hu (fun k hk => hS k hk.1 hk.2), Nat.le_trans h.hi hu.size⟩
/-- The boxes of a look. -/
structure LK (W w : World) (g : Nat) (s : RS) (m : RM) (mo : OM) (A : Option Addr) (c : Nat) : Prop where
  bp : w.heap[W.heap.size]? = some (.cells (PV g s m) 71 (0, 0))
  bo : w.heap[W.heap.size + 1]? = some (.cells (OV mo A c) 45 (0, 0))
  below : Below W.heap.size W w
section
variable {W w w' : World} {B : Nat} {ok z oA zA : Nat → Prop} {g : Nat} {p : PM} {s : RS} {m : RM} {mo : OM} {A : Option Addr} {c : Nat} {lr ld : List Int} {er ed : Int}
theorem LK.new (W : World) (g : Nat) (s : RS) (m : RM) (mo : OM) (A : Option Addr) (c : Nat) : LK W ((W.alloc (.cells (PV g s m) 71)).alloc (.cells (OV mo A c) 45)) g s m mo A c := by
  have h1 := heap_alloc_new W (.cells (PV g s m) 71)
  have h2 := heap_alloc_new (W.alloc (.cells (PV g s m) 71)) (.cells (OV mo A c) 45)
  rw [show (W.alloc (.cells (PV g s m) 71)).heap.size = W.heap.size + 1 by simp] at h2
  exact ⟨blk_below h1 (bx _ _), h2, below_alloc (below_alloc (Below.refl _ _) _) _⟩
theorem LK.next (h : LK W w g s m mo A c) (hb : Below w.heap.size w w') : LK W w' g s m mo A c := ⟨blk_below h.bp hb, blk_below h.bo hb, h.below.trans (hb.mono h.below.size)⟩
theorem LK.read (h : LK W w g s m mo A c) (hr : Rep W B ok g p) (hp : p.ok) {n : Int} (e : p.read n = (lr, er)) : Calls Try.prog 31 #[.pointer (some ⟨g, 0, none⟩), .int .i64 n] w fun e w' => ∃ v, e = .returned (.tuple #[v, .int .i64 er]) ∧ Fresh w lr v w' := by
  have := read_calls (hr.later h.below) hp n; rwa [e] at this
theorem LK.dur (h : LK W w g s m mo A c) (hr : Rep W B ok g p) (hp : p.ok) {n : Int} (e : p.dur n = (ld, ed)) : Calls Try.prog 17 #[.pointer (some ⟨g, 0, none⟩), .int .i64 n] w fun e w' => ∃ v, e = .returned (.tuple #[v, .int .i64 ed]) ∧ Fresh w ld v w' := by
  have := dur_calls (hr.later h.below) hp n; rwa [e] at this
theorem LK.rread (h : LK W w g s m mo A c) (hr : RRep W z s m) (hp : m.ok) {n : Int} (e : m.read n = (lr, er)) : Calls Try.prog 47 #[.agg (RC s m), .int .i64 n] w fun e w' => ∃ v, e = .returned (.tuple #[v, .int .i64 er]) ∧ Fresh w lr v w' := by
  have := rread_calls (hr.below h.below) hp n; rwa [e] at this
theorem LK.rdur (h : LK W w g s m mo A c) (hr : RRep W z s m) (hp : m.ok) {n : Int} (e : m.durable n = (ld, ed)) : Calls Try.prog 48 #[.agg (RC s m), .int .i64 n] w fun e w' => ∃ v, e = .returned (.tuple #[v, .int .i64 ed]) ∧ Fresh w ld v w' := by
  have := rdur_calls (hr.below h.below) hp n; rwa [e] at this
end
/-- What look leaves. -/
def LPost (W : World) (base : Nat) (oA zA : Nat → Prop) (xs : List (Nat × Int)) (e : Ending) (W' : World) : Prop :=
  ∃ v' xs' oA' z', e = .returned (.tuple #[v', .bool true]) ∧ HA W' base oA' z' v' xs' ∧ Upd W W' oA ∧ (∀ k, oA' k → oA k ∨ W.heap.size ≤ k) ∧ (∀ k, z' k → zA k ∨ W.heap.size ≤ k) ∧ (∀ k, oA' k → ¬ z' k) ∧ (∀ k, oA' k → k < W'.heap.size) ∧ (∀ k, z' k → k < W'.heap.size) ∧ xs'.length ≤ xs.length + 1
theorem LPost.next {W w w' : World} {base : Nat} {oA zA : Nat → Prop} {xs : List (Nat × Int)} {e : Ending} (h : LPost W base oA zA xs e w) (hb : Below w.heap.size w w') : LPost W base oA zA xs e w' := by
  obtain ⟨v', xs', oA', z', rfl, h1, h2, h3, h4, h5, h6, h7, h8⟩ := h
  exact ⟨v', xs', oA', z', rfl, h1.upd (Upd.of_below hb (fun _ => False)) (fun _ _ h_ => h_) (fun _ _ h_ => h_), h2.then_ (Upd.of_below hb oA) (fun _ _ h_ => h_), h3, h4, h5, fun k hk => Nat.lt_of_lt_of_le (h6 k hk) hb.size, fun k hk => Nat.lt_of_lt_of_le (h7 k hk) hb.size, h8⟩
set_option maxHeartbeats 2000000 in
theorem look_live {W : World} {B base : Nat} {ok z oA zA : Nat → Prop} {g : Nat} {p : PM} {s : RS} {m : RM} {mo : OM} {A : Option Addr} {c : Nat} {lr ld : List Int} {er ed : Int} {v : Value} {xs : List (Nat × Int)}
    (hp : Rep W B ok g p) (hpk : p.ok) (hm : RRep W z s m) (hmk : m.ok) (r1 : p.read mo.fl = (lr, er)) (r2 : p.dur mo.fl = (ld, ed)) (r3 : m.read mo.fl = (lr, er)) (r4 : m.durable mo.fl = (ld, ed)) (hA : HA W base oA zA v xs) (hoz : ∀ k, oA k → ¬ zA k) (hal : ∀ k, oA k → k < W.heap.size) (hzl : ∀ k, zA k → k < W.heap.size) (hbs : base ≤ W.heap.size) (hx : xs.length ≤ 2400000000000) (hlr : lr.length ≤ 4611686018427387904) (hld : ld.length ≤ 4611686018427387904) (hk : mo.kd = 5) :
    Calls Try.prog 39 #[.agg (PV g s m), .agg (OV mo A c), v] W (LPost W base oA zA xs) := by
  have HP := Aside0.mk hp
  have HPK := Aside0.mk hpk
  have HM := Aside0.mk hm
  have HMK := Aside0.mk hmk
  have HR1 := Aside0.mk r1
  have HR2 := Aside0.mk r2
  have HR3 := Aside0.mk r3
  have HR4 := Aside0.mk r4
  have HT := Aside0.mk (LK.new W g s m mo A c)
  have HHA := Aside0.mk hA
  have HOZ := Aside0.mk hoz
  have HAL := Aside0.mk hal
  have HZL := Aside0.mk hzl
  have HBS := Aside0.mk hbs
  have HXL := Aside0.mk hx
  have HLR := Aside0.mk hlr
  have HLD := Aside0.mk hld
  obtain ⟨A0, c0, rfl, _, _⟩ := hA.slice
  clear hp hpk hm hmk r1 r2 r3 r4 hA hoz hal hzl hbs hx hlr hld
  go_enter Try.func39, Try.ntmps39
  go_upto_region 1 with fail
  refine gen_world (fun w2 => LK W w2 g s m mo A c) HT.out ?_
  intro w0 h2
  have HT := Aside0.mk h2
  clear h2
  obtain ⟨x0, x1, x2, x3, x4, x5, x6, x7, x8⟩ := pv_cells HT.out.bp
  obtain ⟨y0, y1, y2, y3, y4, y5⟩ := ov_cells HT.out.bo
  have hf0 := blk_frozen HT.out.bp
  have hf1 := blk_frozen HT.out.bo
  go_wp2_with fail
  refine (HT.out.read HP.out HPK.out HR1.out).mono ?_
  rintro e w1 ⟨v, rfl, hf⟩
  obtain ⟨A1, c1, rfl, _⟩ := Kd.R_slice_len hf.1
  have HQ1 := Aside0.mk (rg_fresh hf)
  have HS := Aside0.mk HT.out.below.size
  have HSTEP := Aside0.mk hf.2.size
  have HT := Aside0.mk (HT.out.next hf.2)
  clear hf x0 x1 x2 x3 x4 x5 x6 x7 x8 y0 y1 y2 y3 y4 y5 hf0 hf1
  have HS0 := Aside0.mk (show W.heap.size ≤ w0.heap.size from HS.out)
  have HO := Aside0.mk (Nat.le_refl w1.heap.size)
  obtain ⟨x0, x1, x2, x3, x4, x5, x6, x7, x8⟩ := pv_cells HT.out.bp
  obtain ⟨y0, y1, y2, y3, y4, y5⟩ := ov_cells HT.out.bo
  have hf0 := blk_frozen HT.out.bp
  have hf1 := blk_frozen HT.out.bo
  go_wp2_with fail
  refine (HT.out.read HP.out HPK.out HR1.out).mono ?_
  rintro e w2 ⟨v, rfl, hf⟩
  obtain ⟨A2, c2, rfl, _⟩ := Kd.R_slice_len hf.1
  have HQ2 := Aside0.mk (rg_fresh hf)
  have HQ1 := Aside0.mk (HQ1.out.next hf.2)
  have HS := Aside0.mk HT.out.below.size
  have HSTEP := Aside0.mk hf.2.size
  have HT := Aside0.mk (HT.out.next hf.2)
  clear hf x0 x1 x2 x3 x4 x5 x6 x7 x8 y0 y1 y2 y3 y4 y5 hf0 hf1
  have HW2 := Aside0.mk (show W.heap.size ≤ w1.heap.size from HS.out)
  have HO2 := Aside0.mk (show w1.heap.size ≤ w1.heap.size from HO.out)
  have HO := Aside0.mk (Nat.le_trans HO.out HSTEP.out)
  obtain ⟨x0, x1, x2, x3, x4, x5, x6, x7, x8⟩ := pv_cells HT.out.bp
  obtain ⟨y0, y1, y2, y3, y4, y5⟩ := ov_cells HT.out.bo
  have hf0 := blk_frozen HT.out.bp
  have hf1 := blk_frozen HT.out.bo
  go_wp2_with fail
  refine (HT.out.dur HP.out HPK.out HR2.out).mono ?_
  rintro e w3 ⟨v, rfl, hf⟩
  obtain ⟨A3, c3, rfl, _⟩ := Kd.R_slice_len hf.1
  have HQ3 := Aside0.mk (rg_fresh hf)
  have HQ1 := Aside0.mk (HQ1.out.next hf.2)
  have HQ2 := Aside0.mk (HQ2.out.next hf.2)
  have HS := Aside0.mk HT.out.below.size
  have HSTEP := Aside0.mk hf.2.size
  have HT := Aside0.mk (HT.out.next hf.2)
  clear hf x0 x1 x2 x3 x4 x5 x6 x7 x8 y0 y1 y2 y3 y4 y5 hf0 hf1
  have HW3 := Aside0.mk (show W.heap.size ≤ w2.heap.size from HS.out)
  have HO3 := Aside0.mk (show w1.heap.size ≤ w2.heap.size from HO.out)
  have HO := Aside0.mk (Nat.le_trans HO.out HSTEP.out)
  obtain ⟨x0, x1, x2, x3, x4, x5, x6, x7, x8⟩ := pv_cells HT.out.bp
  obtain ⟨y0, y1, y2, y3, y4, y5⟩ := ov_cells HT.out.bo
  have hf0 := blk_frozen HT.out.bp
  have hf1 := blk_frozen HT.out.bo
  go_wp2_with fail
  refine (HT.out.rread HM.out HMK.out HR3.out).mono ?_
  rintro e w4 ⟨v, rfl, hf⟩
  obtain ⟨A4, c4, rfl, _⟩ := Kd.R_slice_len hf.1
  have HQ4 := Aside0.mk (rg_fresh hf)
  have HQ1 := Aside0.mk (HQ1.out.next hf.2)
  have HQ2 := Aside0.mk (HQ2.out.next hf.2)
  have HQ3 := Aside0.mk (HQ3.out.next hf.2)
  have HS := Aside0.mk HT.out.below.size
  have HSTEP := Aside0.mk hf.2.size
  have HT := Aside0.mk (HT.out.next hf.2)
  clear hf x0 x1 x2 x3 x4 x5 x6 x7 x8 y0 y1 y2 y3 y4 y5 hf0 hf1
  have HW4 := Aside0.mk (show W.heap.size ≤ w3.heap.size from HS.out)
  have HO4 := Aside0.mk (show w1.heap.size ≤ w3.heap.size from HO.out)
  have HO := Aside0.mk (Nat.le_trans HO.out HSTEP.out)
  obtain ⟨x0, x1, x2, x3, x4, x5, x6, x7, x8⟩ := pv_cells HT.out.bp
  obtain ⟨y0, y1, y2, y3, y4, y5⟩ := ov_cells HT.out.bo
  have hf0 := blk_frozen HT.out.bp
  have hf1 := blk_frozen HT.out.bo
  go_wp2_with fail
  refine (HT.out.rdur HM.out HMK.out HR4.out).mono ?_
  rintro e w5 ⟨v, rfl, hf⟩
  obtain ⟨A5, c5, rfl, _⟩ := Kd.R_slice_len hf.1
  have HQ5 := Aside0.mk (rg_fresh hf)
  have HQ1 := Aside0.mk (HQ1.out.next hf.2)
  have HQ2 := Aside0.mk (HQ2.out.next hf.2)
  have HQ3 := Aside0.mk (HQ3.out.next hf.2)
  have HQ4 := Aside0.mk (HQ4.out.next hf.2)
  have HS := Aside0.mk HT.out.below.size
  have HSTEP := Aside0.mk hf.2.size
  have HT := Aside0.mk (HT.out.next hf.2)
  clear hf x0 x1 x2 x3 x4 x5 x6 x7 x8 y0 y1 y2 y3 y4 y5 hf0 hf1
  have HW5 := Aside0.mk (show W.heap.size ≤ w4.heap.size from HS.out)
  have HO5 := Aside0.mk (show w1.heap.size ≤ w4.heap.size from HO.out)
  have HO := Aside0.mk (Nat.le_trans HO.out HSTEP.out)
  obtain ⟨x0, x1, x2, x3, x4, x5, x6, x7, x8⟩ := pv_cells HT.out.bp
  obtain ⟨y0, y1, y2, y3, y4, y5⟩ := ov_cells HT.out.bo
  have hf0 := blk_frozen HT.out.bp
  have hf1 := blk_frozen HT.out.bo
  rw [hk] at y0
  go_wp2_with fail
  refine (eq_t rfl rfl rfl (Kd.R_reads' HQ1.out.row).2.2 (Kd.R_reads' HQ1.out.row).2.1 (Kd.R_reads' HQ4.out.row).2.2 (Kd.R_reads' HQ4.out.row).2.1 (by first | exact HLR.out | exact HLD.out)).mono ?_
  rintro e wa ⟨rfl, n_wa, rfl⟩
  have HQ1 := Aside0.mk (HQ1.out.next (pw_below_drewN (Below.refl _ _) n_wa))
  have HQ2 := Aside0.mk (HQ2.out.next (pw_below_drewN (Below.refl _ _) n_wa))
  have HQ3 := Aside0.mk (HQ3.out.next (pw_below_drewN (Below.refl _ _) n_wa))
  have HQ4 := Aside0.mk (HQ4.out.next (pw_below_drewN (Below.refl _ _) n_wa))
  have HQ5 := Aside0.mk (HQ5.out.next (pw_below_drewN (Below.refl _ _) n_wa))
  have HT := Aside0.mk (HT.out.next (pw_below_drewN (Below.refl _ _) n_wa))
  have HSZ := Aside0.mk (show W.heap.size ≤ w0.heap.size from HS0.out)
  go_wp2_with fail
  refine (hold_calls (HHA.out.upd (Upd.of_below HT.out.below (fun _ => False)) (fun _ _ h_ => h_) (fun _ _ h_ => h_)) (Kd.R_lower HQ1.out.row (Nat.le_trans HBS.out HSZ.out)) HOZ.out (fun k hk => ⟨fun h_ => by have := HAL.out k h_; have := HSZ.out; omega, fun h_ => by have := HZL.out k h_; have := HSZ.out; omega⟩) (fun k hk => Nat.lt_of_lt_of_le (HZL.out k hk) HT.out.below.size) (fun k hk => Nat.lt_of_lt_of_le hk.2 HQ1.out.hi) (fun k hk => Nat.lt_of_lt_of_le (HAL.out k hk) HT.out.below.size) (Nat.le_trans HBS.out HT.out.below.size) HXL.out).mono ?_
  rintro e wh ⟨v', xs', oA', z', rfl, hh1, hh2, hh3, hh4, hh5, hh6, hh7, hh8⟩
  obtain ⟨A', c', rfl, _, _⟩ := hh1.slice
  have HQ2 := Aside0.mk (HQ2.out.upd hh2 (fun k h1 h2 h3 => h3.elim (fun h3 => by have := HAL.out k h3; have := HW2.out; omega) (fun h3 => by have := h3.2; have := HO2.out; omega)))
  have HQ3 := Aside0.mk (HQ3.out.upd hh2 (fun k h1 h2 h3 => h3.elim (fun h3 => by have := HAL.out k h3; have := HW3.out; omega) (fun h3 => by have := h3.2; have := HO3.out; omega)))
  have HQ4 := Aside0.mk (HQ4.out.upd hh2 (fun k h1 h2 h3 => h3.elim (fun h3 => by have := HAL.out k h3; have := HW4.out; omega) (fun h3 => by have := h3.2; have := HO4.out; omega)))
  have HQ5 := Aside0.mk (HQ5.out.upd hh2 (fun k h1 h2 h3 => h3.elim (fun h3 => by have := HAL.out k h3; have := HW5.out; omega) (fun h3 => by have := h3.2; have := HO5.out; omega)))
  have HPO := Aside0.mk (show LPost W base oA zA xs (.returned (.tuple #[.slice A' xs'.length c', .bool true])) wh from ⟨_, xs', oA', z', rfl, hh1, (Upd.of_below HT.out.below oA).then_ hh2 (fun k hk h_ => h_.elim id (fun h3 => by have := h3.1; have := HSZ.out; omega)), fun k hk => (hh3 k hk).elim .inl (fun h3 => .inr (Nat.le_trans HT.out.below.size h3)), fun k hk => (hh4 k hk).elim .inl (fun h3 => .inr (h3.elim (fun h3 => Nat.le_trans HSZ.out h3.1) (fun h3 => Nat.le_trans HT.out.below.size h3))), hh5, hh6, hh7, hh8⟩)
  clear hh1 hh2 hh3 hh4 hh5 hh6 hh7 hh8 HT
  go_wp2_with fail
  refine (eq_t rfl rfl rfl (Kd.R_reads' HQ2.out.row).2.2 (Kd.R_reads' HQ2.out.row).2.1 (Kd.R_reads' HQ4.out.row).2.2 (Kd.R_reads' HQ4.out.row).2.1 (by first | exact HLR.out | exact HLD.out)).mono ?_
  rintro e wb ⟨rfl, n_wb, rfl⟩
  have HQ3 := Aside0.mk (HQ3.out.next (pw_below_drewN (Below.refl _ _) n_wb))
  have HQ5 := Aside0.mk (HQ5.out.next (pw_below_drewN (Below.refl _ _) n_wb))
  go_wp2_with fail
  refine (eq_t rfl rfl rfl (Kd.R_reads' HQ3.out.row).2.2 (Kd.R_reads' HQ3.out.row).2.1 (Kd.R_reads' HQ5.out.row).2.2 (Kd.R_reads' HQ5.out.row).2.1 (by first | exact HLR.out | exact HLD.out)).mono ?_
  rintro e wc ⟨rfl, n_wc, rfl⟩
  have HPO := Aside0.mk (HPO.out.next (pw_below_drewN (Below.refl _ _) (n_wb + n_wc)))
  go_wp2_with fail
  go_ret2
  exact HPO.out
set_option maxHeartbeats 2000000 in
theorem look_kept {W : World} {B base : Nat} {ok z oA zA : Nat → Prop} {g : Nat} {p : PM} {s : RS} {m : RM} {mo : OM} {A : Option Addr} {c : Nat} {lr ld : List Int} {er ed : Int} {v : Value} {xs : List (Nat × Int)}
    (hp : Rep W B ok g p) (hpk : p.ok) (hm : RRep W z s m) (hmk : m.ok) (r1 : p.read mo.fl = (lr, er)) (r2 : p.dur mo.fl = (ld, ed)) (r3 : m.read mo.fl = (lr, er)) (r4 : m.durable mo.fl = (ld, ed)) (hA : HA W base oA zA v xs) (hoz : ∀ k, oA k → ¬ zA k) (hal : ∀ k, oA k → k < W.heap.size) (hzl : ∀ k, zA k → k < W.heap.size) (hbs : base ≤ W.heap.size) (hx : xs.length ≤ 2400000000000) (hlr : lr.length ≤ 4611686018427387904) (hld : ld.length ≤ 4611686018427387904) (hk : mo.kd ≠ 5) :
    Calls Try.prog 39 #[.agg (PV g s m), .agg (OV mo A c), v] W (LPost W base oA zA xs) := by
  have HP := Aside0.mk hp
  have HPK := Aside0.mk hpk
  have HM := Aside0.mk hm
  have HMK := Aside0.mk hmk
  have HR1 := Aside0.mk r1
  have HR2 := Aside0.mk r2
  have HR3 := Aside0.mk r3
  have HR4 := Aside0.mk r4
  have HT := Aside0.mk (LK.new W g s m mo A c)
  have HHA := Aside0.mk hA
  have HOZ := Aside0.mk hoz
  have HAL := Aside0.mk hal
  have HZL := Aside0.mk hzl
  have HBS := Aside0.mk hbs
  have HXL := Aside0.mk hx
  have HLR := Aside0.mk hlr
  have HLD := Aside0.mk hld
  obtain ⟨A0, c0, rfl, _, _⟩ := hA.slice
  clear hp hpk hm hmk r1 r2 r3 r4 hA hoz hal hzl hbs hx hlr hld
  go_enter Try.func39, Try.ntmps39
  go_upto_region 1 with fail
  refine gen_world (fun w2 => LK W w2 g s m mo A c) HT.out ?_
  intro w0 h2
  have HT := Aside0.mk h2
  clear h2
  obtain ⟨x0, x1, x2, x3, x4, x5, x6, x7, x8⟩ := pv_cells HT.out.bp
  obtain ⟨y0, y1, y2, y3, y4, y5⟩ := ov_cells HT.out.bo
  have hf0 := blk_frozen HT.out.bp
  have hf1 := blk_frozen HT.out.bo
  go_wp2_with fail
  refine (HT.out.read HP.out HPK.out HR1.out).mono ?_
  rintro e w1 ⟨v, rfl, hf⟩
  obtain ⟨A1, c1, rfl, _⟩ := Kd.R_slice_len hf.1
  have HQ1 := Aside0.mk (rg_fresh hf)
  have HS := Aside0.mk HT.out.below.size
  have HSTEP := Aside0.mk hf.2.size
  have HT := Aside0.mk (HT.out.next hf.2)
  clear hf x0 x1 x2 x3 x4 x5 x6 x7 x8 y0 y1 y2 y3 y4 y5 hf0 hf1
  obtain ⟨x0, x1, x2, x3, x4, x5, x6, x7, x8⟩ := pv_cells HT.out.bp
  obtain ⟨y0, y1, y2, y3, y4, y5⟩ := ov_cells HT.out.bo
  have hf0 := blk_frozen HT.out.bp
  have hf1 := blk_frozen HT.out.bo
  go_wp2_with fail
  refine (HT.out.read HP.out HPK.out HR1.out).mono ?_
  rintro e w2 ⟨v, rfl, hf⟩
  obtain ⟨A2, c2, rfl, _⟩ := Kd.R_slice_len hf.1
  have HQ2 := Aside0.mk (rg_fresh hf)
  have HQ1 := Aside0.mk (HQ1.out.next hf.2)
  have HS := Aside0.mk HT.out.below.size
  have HSTEP := Aside0.mk hf.2.size
  have HT := Aside0.mk (HT.out.next hf.2)
  clear hf x0 x1 x2 x3 x4 x5 x6 x7 x8 y0 y1 y2 y3 y4 y5 hf0 hf1
  obtain ⟨x0, x1, x2, x3, x4, x5, x6, x7, x8⟩ := pv_cells HT.out.bp
  obtain ⟨y0, y1, y2, y3, y4, y5⟩ := ov_cells HT.out.bo
  have hf0 := blk_frozen HT.out.bp
  have hf1 := blk_frozen HT.out.bo
  go_wp2_with fail
  refine (HT.out.dur HP.out HPK.out HR2.out).mono ?_
  rintro e w3 ⟨v, rfl, hf⟩
  obtain ⟨A3, c3, rfl, _⟩ := Kd.R_slice_len hf.1
  have HQ3 := Aside0.mk (rg_fresh hf)
  have HQ1 := Aside0.mk (HQ1.out.next hf.2)
  have HQ2 := Aside0.mk (HQ2.out.next hf.2)
  have HS := Aside0.mk HT.out.below.size
  have HSTEP := Aside0.mk hf.2.size
  have HT := Aside0.mk (HT.out.next hf.2)
  clear hf x0 x1 x2 x3 x4 x5 x6 x7 x8 y0 y1 y2 y3 y4 y5 hf0 hf1
  obtain ⟨x0, x1, x2, x3, x4, x5, x6, x7, x8⟩ := pv_cells HT.out.bp
  obtain ⟨y0, y1, y2, y3, y4, y5⟩ := ov_cells HT.out.bo
  have hf0 := blk_frozen HT.out.bp
  have hf1 := blk_frozen HT.out.bo
  go_wp2_with fail
  refine (HT.out.rread HM.out HMK.out HR3.out).mono ?_
  rintro e w4 ⟨v, rfl, hf⟩
  obtain ⟨A4, c4, rfl, _⟩ := Kd.R_slice_len hf.1
  have HQ4 := Aside0.mk (rg_fresh hf)
  have HQ1 := Aside0.mk (HQ1.out.next hf.2)
  have HQ2 := Aside0.mk (HQ2.out.next hf.2)
  have HQ3 := Aside0.mk (HQ3.out.next hf.2)
  have HS := Aside0.mk HT.out.below.size
  have HSTEP := Aside0.mk hf.2.size
  have HT := Aside0.mk (HT.out.next hf.2)
  clear hf x0 x1 x2 x3 x4 x5 x6 x7 x8 y0 y1 y2 y3 y4 y5 hf0 hf1
  obtain ⟨x0, x1, x2, x3, x4, x5, x6, x7, x8⟩ := pv_cells HT.out.bp
  obtain ⟨y0, y1, y2, y3, y4, y5⟩ := ov_cells HT.out.bo
  have hf0 := blk_frozen HT.out.bp
  have hf1 := blk_frozen HT.out.bo
  go_wp2_with fail
  refine (HT.out.rdur HM.out HMK.out HR4.out).mono ?_
  rintro e w5 ⟨v, rfl, hf⟩
  obtain ⟨A5, c5, rfl, _⟩ := Kd.R_slice_len hf.1
  have HQ5 := Aside0.mk (rg_fresh hf)
  have HQ1 := Aside0.mk (HQ1.out.next hf.2)
  have HQ2 := Aside0.mk (HQ2.out.next hf.2)
  have HQ3 := Aside0.mk (HQ3.out.next hf.2)
  have HQ4 := Aside0.mk (HQ4.out.next hf.2)
  have HS := Aside0.mk HT.out.below.size
  have HSTEP := Aside0.mk hf.2.size
  have HT := Aside0.mk (HT.out.next hf.2)
  clear hf x0 x1 x2 x3 x4 x5 x6 x7 x8 y0 y1 y2 y3 y4 y5 hf0 hf1
  obtain ⟨x0, x1, x2, x3, x4, x5, x6, x7, x8⟩ := pv_cells HT.out.bp
  obtain ⟨y0, y1, y2, y3, y4, y5⟩ := ov_cells HT.out.bo
  have hf0 := blk_frozen HT.out.bp
  have hf1 := blk_frozen HT.out.bo
  have dk : decide (mo.kd = 5) = false := decide_eq_false hk
  clear x0 x1 x2 x3 x4 x5 x6 x7 x8 y1 y2 y3 y4 y5 hf0
  obtain ⟨x0, x1, x2, x3, x4, x5, x6, x7, x8⟩ := pv_cells HT.out.bp
  obtain ⟨y0, y1, y2, y3, y4, y5⟩ := ov_cells HT.out.bo
  have hf0 := blk_frozen HT.out.bp
  have hf1 := blk_frozen HT.out.bo
  go_wp2_with fail
  refine (HT.out.dur HP.out HPK.out HR2.out).mono ?_
  rintro e w6 ⟨v, rfl, hf⟩
  obtain ⟨A6, c6, rfl, _⟩ := Kd.R_slice_len hf.1
  have HQ6 := Aside0.mk (rg_fresh hf)
  have HQ1 := Aside0.mk (HQ1.out.next hf.2)
  have HQ2 := Aside0.mk (HQ2.out.next hf.2)
  have HQ3 := Aside0.mk (HQ3.out.next hf.2)
  have HQ4 := Aside0.mk (HQ4.out.next hf.2)
  have HQ5 := Aside0.mk (HQ5.out.next hf.2)
  have HS := Aside0.mk HT.out.below.size
  have HSTEP := Aside0.mk hf.2.size
  have HT := Aside0.mk (HT.out.next hf.2)
  clear hf x0 x1 x2 x3 x4 x5 x6 x7 x8 y0 y1 y2 y3 y4 y5 hf0 hf1
  have HS0 := Aside0.mk (show W.heap.size ≤ w5.heap.size from HS.out)
  have HO := Aside0.mk (Nat.le_refl w6.heap.size)
  obtain ⟨x0, x1, x2, x3, x4, x5, x6, x7, x8⟩ := pv_cells HT.out.bp
  obtain ⟨y0, y1, y2, y3, y4, y5⟩ := ov_cells HT.out.bo
  have hf0 := blk_frozen HT.out.bp
  have hf1 := blk_frozen HT.out.bo
  go_wp2_with fail
  refine (HT.out.dur HP.out HPK.out HR2.out).mono ?_
  rintro e w7 ⟨v, rfl, hf⟩
  obtain ⟨A7, c7, rfl, _⟩ := Kd.R_slice_len hf.1
  have HQ7 := Aside0.mk (rg_fresh hf)
  have HQ1 := Aside0.mk (HQ1.out.next hf.2)
  have HQ2 := Aside0.mk (HQ2.out.next hf.2)
  have HQ3 := Aside0.mk (HQ3.out.next hf.2)
  have HQ4 := Aside0.mk (HQ4.out.next hf.2)
  have HQ5 := Aside0.mk (HQ5.out.next hf.2)
  have HQ6 := Aside0.mk (HQ6.out.next hf.2)
  have HS := Aside0.mk HT.out.below.size
  have HSTEP := Aside0.mk hf.2.size
  have HT := Aside0.mk (HT.out.next hf.2)
  clear hf x0 x1 x2 x3 x4 x5 x6 x7 x8 y0 y1 y2 y3 y4 y5 hf0 hf1
  have HW7 := Aside0.mk (show W.heap.size ≤ w6.heap.size from HS.out)
  have HO7 := Aside0.mk (show w6.heap.size ≤ w6.heap.size from HO.out)
  have HO := Aside0.mk (Nat.le_trans HO.out HSTEP.out)
  obtain ⟨x0, x1, x2, x3, x4, x5, x6, x7, x8⟩ := pv_cells HT.out.bp
  obtain ⟨y0, y1, y2, y3, y4, y5⟩ := ov_cells HT.out.bo
  have hf0 := blk_frozen HT.out.bp
  have hf1 := blk_frozen HT.out.bo
  go_wp2_with fail
  refine (HT.out.read HP.out HPK.out HR1.out).mono ?_
  rintro e w8 ⟨v, rfl, hf⟩
  obtain ⟨A8, c8, rfl, _⟩ := Kd.R_slice_len hf.1
  have HQ8 := Aside0.mk (rg_fresh hf)
  have HQ1 := Aside0.mk (HQ1.out.next hf.2)
  have HQ2 := Aside0.mk (HQ2.out.next hf.2)
  have HQ3 := Aside0.mk (HQ3.out.next hf.2)
  have HQ4 := Aside0.mk (HQ4.out.next hf.2)
  have HQ5 := Aside0.mk (HQ5.out.next hf.2)
  have HQ6 := Aside0.mk (HQ6.out.next hf.2)
  have HQ7 := Aside0.mk (HQ7.out.next hf.2)
  have HS := Aside0.mk HT.out.below.size
  have HSTEP := Aside0.mk hf.2.size
  have HT := Aside0.mk (HT.out.next hf.2)
  clear hf x0 x1 x2 x3 x4 x5 x6 x7 x8 y0 y1 y2 y3 y4 y5 hf0 hf1
  have HW8 := Aside0.mk (show W.heap.size ≤ w7.heap.size from HS.out)
  have HO8 := Aside0.mk (show w6.heap.size ≤ w7.heap.size from HO.out)
  have HO := Aside0.mk (Nat.le_trans HO.out HSTEP.out)
  obtain ⟨x0, x1, x2, x3, x4, x5, x6, x7, x8⟩ := pv_cells HT.out.bp
  obtain ⟨y0, y1, y2, y3, y4, y5⟩ := ov_cells HT.out.bo
  have hf0 := blk_frozen HT.out.bp
  have hf1 := blk_frozen HT.out.bo
  go_wp2_with fail
  refine (HT.out.rdur HM.out HMK.out HR4.out).mono ?_
  rintro e w9 ⟨v, rfl, hf⟩
  obtain ⟨A9, c9, rfl, _⟩ := Kd.R_slice_len hf.1
  have HQ9 := Aside0.mk (rg_fresh hf)
  have HQ1 := Aside0.mk (HQ1.out.next hf.2)
  have HQ2 := Aside0.mk (HQ2.out.next hf.2)
  have HQ3 := Aside0.mk (HQ3.out.next hf.2)
  have HQ4 := Aside0.mk (HQ4.out.next hf.2)
  have HQ5 := Aside0.mk (HQ5.out.next hf.2)
  have HQ6 := Aside0.mk (HQ6.out.next hf.2)
  have HQ7 := Aside0.mk (HQ7.out.next hf.2)
  have HQ8 := Aside0.mk (HQ8.out.next hf.2)
  have HS := Aside0.mk HT.out.below.size
  have HSTEP := Aside0.mk hf.2.size
  have HT := Aside0.mk (HT.out.next hf.2)
  clear hf x0 x1 x2 x3 x4 x5 x6 x7 x8 y0 y1 y2 y3 y4 y5 hf0 hf1
  have HW9 := Aside0.mk (show W.heap.size ≤ w8.heap.size from HS.out)
  have HO9 := Aside0.mk (show w6.heap.size ≤ w8.heap.size from HO.out)
  have HO := Aside0.mk (Nat.le_trans HO.out HSTEP.out)
  obtain ⟨x0, x1, x2, x3, x4, x5, x6, x7, x8⟩ := pv_cells HT.out.bp
  obtain ⟨y0, y1, y2, y3, y4, y5⟩ := ov_cells HT.out.bo
  have hf0 := blk_frozen HT.out.bp
  have hf1 := blk_frozen HT.out.bo
  go_wp2_with fail
  refine (HT.out.rread HM.out HMK.out HR3.out).mono ?_
  rintro e w10 ⟨v, rfl, hf⟩
  obtain ⟨A10, c10, rfl, _⟩ := Kd.R_slice_len hf.1
  have HQ10 := Aside0.mk (rg_fresh hf)
  have HQ1 := Aside0.mk (HQ1.out.next hf.2)
  have HQ2 := Aside0.mk (HQ2.out.next hf.2)
  have HQ3 := Aside0.mk (HQ3.out.next hf.2)
  have HQ4 := Aside0.mk (HQ4.out.next hf.2)
  have HQ5 := Aside0.mk (HQ5.out.next hf.2)
  have HQ6 := Aside0.mk (HQ6.out.next hf.2)
  have HQ7 := Aside0.mk (HQ7.out.next hf.2)
  have HQ8 := Aside0.mk (HQ8.out.next hf.2)
  have HQ9 := Aside0.mk (HQ9.out.next hf.2)
  have HS := Aside0.mk HT.out.below.size
  have HSTEP := Aside0.mk hf.2.size
  have HT := Aside0.mk (HT.out.next hf.2)
  clear hf x0 x1 x2 x3 x4 x5 x6 x7 x8 y0 y1 y2 y3 y4 y5 hf0 hf1
  have HW10 := Aside0.mk (show W.heap.size ≤ w9.heap.size from HS.out)
  have HO10 := Aside0.mk (show w6.heap.size ≤ w9.heap.size from HO.out)
  have HO := Aside0.mk (Nat.le_trans HO.out HSTEP.out)
  go_wp2_with fail
  refine (eq_t rfl rfl rfl (Kd.R_reads' HQ6.out.row).2.2 (Kd.R_reads' HQ6.out.row).2.1 (Kd.R_reads' HQ9.out.row).2.2 (Kd.R_reads' HQ9.out.row).2.1 (by first | exact HLR.out | exact HLD.out)).mono ?_
  rintro e wa ⟨rfl, n_wa, rfl⟩
  have HQ6 := Aside0.mk (HQ6.out.next (pw_below_drewN (Below.refl _ _) n_wa))
  have HQ7 := Aside0.mk (HQ7.out.next (pw_below_drewN (Below.refl _ _) n_wa))
  have HQ8 := Aside0.mk (HQ8.out.next (pw_below_drewN (Below.refl _ _) n_wa))
  have HQ9 := Aside0.mk (HQ9.out.next (pw_below_drewN (Below.refl _ _) n_wa))
  have HQ10 := Aside0.mk (HQ10.out.next (pw_below_drewN (Below.refl _ _) n_wa))
  have HT := Aside0.mk (HT.out.next (pw_below_drewN (Below.refl _ _) n_wa))
  have HSZ := Aside0.mk (show W.heap.size ≤ w5.heap.size from HS0.out)
  go_wp2_with fail
  refine (hold_calls (HHA.out.upd (Upd.of_below HT.out.below (fun _ => False)) (fun _ _ h_ => h_) (fun _ _ h_ => h_)) (Kd.R_lower HQ6.out.row (Nat.le_trans HBS.out HSZ.out)) HOZ.out (fun k hk => ⟨fun h_ => by have := HAL.out k h_; have := HSZ.out; omega, fun h_ => by have := HZL.out k h_; have := HSZ.out; omega⟩) (fun k hk => Nat.lt_of_lt_of_le (HZL.out k hk) HT.out.below.size) (fun k hk => Nat.lt_of_lt_of_le hk.2 HQ6.out.hi) (fun k hk => Nat.lt_of_lt_of_le (HAL.out k hk) HT.out.below.size) (Nat.le_trans HBS.out HT.out.below.size) HXL.out).mono ?_
  rintro e wh ⟨v', xs', oA', z', rfl, hh1, hh2, hh3, hh4, hh5, hh6, hh7, hh8⟩
  obtain ⟨A', c', rfl, _, _⟩ := hh1.slice
  have HQ7 := Aside0.mk (HQ7.out.upd hh2 (fun k h1 h2 h3 => h3.elim (fun h3 => by have := HAL.out k h3; have := HW7.out; omega) (fun h3 => by have := h3.2; have := HO7.out; omega)))
  have HQ8 := Aside0.mk (HQ8.out.upd hh2 (fun k h1 h2 h3 => h3.elim (fun h3 => by have := HAL.out k h3; have := HW8.out; omega) (fun h3 => by have := h3.2; have := HO8.out; omega)))
  have HQ9 := Aside0.mk (HQ9.out.upd hh2 (fun k h1 h2 h3 => h3.elim (fun h3 => by have := HAL.out k h3; have := HW9.out; omega) (fun h3 => by have := h3.2; have := HO9.out; omega)))
  have HQ10 := Aside0.mk (HQ10.out.upd hh2 (fun k h1 h2 h3 => h3.elim (fun h3 => by have := HAL.out k h3; have := HW10.out; omega) (fun h3 => by have := h3.2; have := HO10.out; omega)))
  have HPO := Aside0.mk (show LPost W base oA zA xs (.returned (.tuple #[.slice A' xs'.length c', .bool true])) wh from ⟨_, xs', oA', z', rfl, hh1, (Upd.of_below HT.out.below oA).then_ hh2 (fun k hk h_ => h_.elim id (fun h3 => by have := h3.1; have := HSZ.out; omega)), fun k hk => (hh3 k hk).elim .inl (fun h3 => .inr (Nat.le_trans HT.out.below.size h3)), fun k hk => (hh4 k hk).elim .inl (fun h3 => .inr (h3.elim (fun h3 => Nat.le_trans HSZ.out h3.1) (fun h3 => Nat.le_trans HT.out.below.size h3))), hh5, hh6, hh7, hh8⟩)
  clear hh1 hh2 hh3 hh4 hh5 hh6 hh7 hh8 HT
  go_wp2_with fail
  refine (eq_t rfl rfl rfl (Kd.R_reads' HQ7.out.row).2.2 (Kd.R_reads' HQ7.out.row).2.1 (Kd.R_reads' HQ9.out.row).2.2 (Kd.R_reads' HQ9.out.row).2.1 (by first | exact HLR.out | exact HLD.out)).mono ?_
  rintro e wb ⟨rfl, n_wb, rfl⟩
  have HQ8 := Aside0.mk (HQ8.out.next (pw_below_drewN (Below.refl _ _) n_wb))
  have HQ10 := Aside0.mk (HQ10.out.next (pw_below_drewN (Below.refl _ _) n_wb))
  go_wp2_with fail
  refine (eq_t rfl rfl rfl (Kd.R_reads' HQ8.out.row).2.2 (Kd.R_reads' HQ8.out.row).2.1 (Kd.R_reads' HQ10.out.row).2.2 (Kd.R_reads' HQ10.out.row).2.1 (by first | exact HLR.out | exact HLD.out)).mono ?_
  rintro e wc ⟨rfl, n_wc, rfl⟩
  have HPO := Aside0.mk (HPO.out.next (pw_below_drewN (Below.refl _ _) (n_wb + n_wc)))
  go_wp2_with fail
  go_ret2
  exact HPO.out
theorem look_calls {W : World} {B base : Nat} {ok z oA zA : Nat → Prop} {g : Nat} {p : PM} {s : RS} {m : RM} {mo : OM} {A : Option Addr} {c : Nat} {v : Value} {xs : List (Nat × Int)}
    (hp : Rep W B ok g p) (hm : RRep W z s m) (hR : Rel p m) (hM : m.ok) (hA : HA W base oA zA v xs) (hoz : ∀ k, oA k → ¬ zA k) (hal : ∀ k, oA k → k < W.heap.size) (hzl : ∀ k, zA k → k < W.heap.size) (hbs : base ≤ W.heap.size) (hx : xs.length ≤ 2400000000000) :
    Calls Try.prog 39 #[.agg (PV g s m), .agg (OV mo A c), v] W (LPost W base oA zA xs) := by
  have hpk := hR.ok hM
  have ha : ∀ n, (p.all n).length ≤ 16777216 := fun n => by unfold PM.all; split <;> first | exact hpk.l0 | exact hpk.l1
  have h1 : (p.read mo.fl).1.length ≤ 4611686018427387904 := by have := ha mo.fl; unfold PM.read; by_cases h1 : badF mo.fl <;> by_cases h2 : p.dn = true <;> simp [h1, h2] <;> omega
  have h2 : (p.dur mo.fl).1.length ≤ 4611686018427387904 := by have := ha mo.fl; unfold PM.dur; by_cases h1 : badF mo.fl <;> simp [h1] <;> omega
  by_cases hk : mo.kd = 5
  · exact look_live hp hpk hm hM rfl rfl (hR.read _).symm (hR.dur _).symm hA hoz hal hzl hbs hx h1 h2 hk
  · exact look_kept hp hpk hm hM rfl rfl (hR.read _).symm (hR.dur _).symm hA hoz hal hzl hbs hx h1 h2 hk
end Go.Proofs.Yticokogggepfoaa.D
