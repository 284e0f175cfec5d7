/- done: one operation of a script done to a disk. No condition but that the disk is whole. -/
import Derived.Test.YticokogggepfoaaLE
namespace Go.Proofs.Yticokogggepfoaa.D
open Go.RowKit Go.Proofs.YticokogggepfoaaW.PrintWords Go.Proofs.YticokogggepfoaaW.PrintLast Go.Proofs.YticokogggepfoaaW.PrintMore Go.Proofs.Yticokogggepfoaa.G
attribute [local go_sem] max2_int min2_int max_two min_two max_three min_three max_four min_four
set_option linter.unusedVariables false
set_option linter.unusedSimpArgs false
set_option maxRecDepth 100000
/-- An operation of a script. -/
structure OM where
  kd : Int
  ot : Bool
  fl : Int
  a : Int
  b : Int
  data : List Int
def OM.hand (m : OM) : List Int := if m.kd = 2 then (if m.a < 0 ∨ 16777224 < m.a then [] else List.replicate m.a.toNat 0) else m.data
def OM.done (m : OM) (p : PM) : PM × Int :=
  if m.kd = 1 ∨ m.kd = 2 then p.append m.fl m.hand else if m.kd = 3 then p.syncf m.fl else if m.kd = 4 then p.trunc m.fl m.a
  else if m.kd = 7 then p.arm m.a m.b else if m.kd = 8 then (p.disarm, 0) else if m.kd = 9 then p.restart else (p, 0)
@[reducible] def OV (m : OM) (A : Option Addr) (c : Nat) : Array Value := #[.int .i64 m.kd, .bool m.ot, .int .i64 m.fl, .int .i64 m.a, .int .i64 m.b, .slice A m.data.length c]
section
variable {W w : World} {B g : Nat} {ok : Nat → Prop} {p : PM} {m : OM} {A : Option Addr} {c : Nat}
theorem OM.hand_len (h : m.data.length < 140737488355328) : m.hand.length ≤ 140737488355328 := by
  unfold OM.hand; split <;> try split <;> simp <;> omega
  omega
theorem hand_calls (hC : Kd.C By W A m.data.length m.data) (hc : m.data.length ≤ c) (hl : m.data.length < 140737488355328) : Calls Try.prog 43 #[.agg (OV m A c)] W fun e W' => ∃ v, e = .returned v ∧ Fresh W m.hand v W' := by
  refine (arrearslaw5_handed.calls m.kd m.ot m.fl m.a m.b A c m.data m.hand W hC hc ?_).mono fun e W' ⟨v, he, hr, hb⟩ => ⟨v, he, hr, hb⟩
  unfold arrearslaw5_handed.f OM.hand
  by_cases h : m.kd = 2
  · rw [if_pos h, if_pos h]
    by_cases h1 : m.a < 0
    · rw [if_pos h1, if_pos (.inl h1)]
    · by_cases h2 : m.a > 16777224
      · rw [if_neg h1, if_pos h2, if_pos (.inr h2)]
      · rw [if_neg h1, if_neg h2, if_pos (show 0 ≤ m.a by omega), if_pos (show m.a.toNat ≤ 281474976710656 by omega), if_neg (show ¬ (m.a < 0 ∨ 16777224 < m.a) by omega)]
  · rw [if_neg h, if_neg h]
    unfold arrearslaw5_copied.f; rw [if_pos (by simpa using hl)]; rfl
/-- What a call of the disk leaves. -/
def Did (W : World) (B g : Nat) (ok : Nat → Prop) (r : PM × Int) (e : Ending) (W' : World) : Prop := e = .returned (.int .i64 r.2) ∧ Rep W' B (fun k => ok k ∨ W.heap.size ≤ k) g r.1 ∧ Upd W W' ok
theorem Did.of {w1 w2 w' : World} {r : PM × Int} (hb : Below W.heap.size W w1) (hr : Rep w' B (fun k => ok k ∨ w1.heap.size ≤ k) g r.1) (hu : Upd w1 w' ok) : Rep w' B (fun k => ok k ∨ W.heap.size ≤ k) g r.1 ∧ Upd W w' ok :=
  ⟨hr.mono (fun k hk => hk.elim .inl (fun h => .inr (Nat.le_trans hb.size h))), (Upd.of_below hb ok).then_ hu (fun _ _ h => h)⟩
theorem Rep.later (h : Rep W B ok g p) (hb : Below W.heap.size W w) : Rep w B ok g p := h.upd (Upd.of_below hb (fun _ => False)) (fun _ _ _ hk => hk)
theorem below_drop {w2 w3 : World} {n : Nat} (h : Below w2.drew.heap.size w2.drew w3) (hn : n ≤ w2.heap.size) : Below n w2 w3 := (below_drew1 (Below.refl n w2)).trans (h.mono hn)
theorem ov_cells (h : W.heap[g]? = some (.cells (OV m A c) 45 (0, 0))) : W.cell? ⟨g, 0, none⟩ = some (.int .i64 m.kd) ∧ W.cell? ⟨g, 1, none⟩ = some (.bool m.ot) ∧ W.cell? ⟨g, 2, none⟩ = some (.int .i64 m.fl) ∧ W.cell? ⟨g, 3, none⟩ = some (.int .i64 m.a) ∧ W.cell? ⟨g, 4, none⟩ = some (.int .i64 m.b) ∧ W.cell? ⟨g, 5, none⟩ = some (.slice A m.data.length c) := by
  refine ⟨?_, ?_, ?_, ?_, ?_, ?_⟩ <;> exact (blk_cell h _).trans rfl
set_option maxHeartbeats 4000000 in
theorem done_append (h : Rep W B ok g p) (hp : p.ok) (hBW : B ≤ W.heap.size) (hC : Kd.C By W A m.data.length m.data) (hc : m.data.length ≤ c) (hl : m.data.length < 140737488355328) (hk : m.kd = 1 ∨ m.kd = 2) :
    Calls Try.prog 26 #[.pointer (some ⟨g, 0, none⟩), .agg (OV m A c)] W (Did W B g ok (m.done p)) := by
  have e : m.done p = p.append m.fl m.hand := by unfold OM.done; rw [if_pos hk]
  rw [e]; clear e
  have H := Aside0.mk h
  have HP := Aside0.mk hp
  have HBW := Aside0.mk hBW
  have HC := Aside0.mk hC
  have HCC := Aside0.mk hc
  have HL := Aside0.mk hl
  have hu45 := Try.underlying45
  obtain ⟨kd, ot, fl, a, b, data⟩ := m
  clear h hp hBW hC hc hl
  dsimp only at hk
  rcases hk with rfl | rfl
  all_goals
    go_enter Try.func26, Try.ntmps26
    go_wp2_with fail
    refine gen_world (fun w2 => w2.heap[W.heap.size]? = some (.cells (OV ⟨_, ot, fl, a, b, data⟩ A c) 45 (0, 0)) ∧ Kd.C By w2 A data.length data ∧ Below W.heap.size W w2) ⟨heap_alloc_new W _, Kd.C_alloc HC.out _, below_alloc (Below.refl _ _) _⟩ ?_
    rintro w2 ⟨hx, hc2, hb2⟩
    obtain ⟨x0, x1, x2, x3, x4, x5⟩ := ov_cells hx
    have hfz := blk_frozen hx
    have HX := Aside0.mk hx
    have HC2 := Aside0.mk hc2
    have HB2 := Aside0.mk hb2
    clear hx hc2 hb2
    go_region_with (first
      | (go_at_call 43; (with_reducible refine (hand_calls (m := ⟨_, ot, fl, a, b, data⟩) (Kd.C_drew HC2.out) HCC.out HL.out).mono ?_); rintro e w3 ⟨v, rfl, hf⟩; obtain ⟨A1, c1, rfl, _⟩ := Kd.R_slice_len hf.1; have HF := Aside0.mk hf; have HB := Aside0.mk (HB2.out.trans (below_drop hf.2 HB2.out.size)); have hx3 := blk_below (w := World.drew w2) HX.out hf.2; obtain ⟨y0, y1, y2, y3, y4, y5⟩ := ov_cells hx3; have hfz3 := blk_frozen hx3; clear hf hx3 y0 y1 y3 y4 y5)
      | (go_at_call 14; (with_reducible refine (append_calls (H.out.later HB.out) HP.out (Nat.le_trans HBW.out HB.out.size) _ _ _ _ HF.out.reads (OM.hand_len (m := ⟨_, ot, fl, a, b, data⟩) HL.out)).mono ?_); rintro e w4 ⟨rfl, hr, hu⟩; have HD := Aside0.mk (Did.of (w2 := w3) HB.out hr hu); clear hr hu))
    all_goals
      go_wp2_with fail
      go_ret
      exact ⟨rfl, HD.out⟩
end
end Go.Proofs.Yticokogggepfoaa.D
