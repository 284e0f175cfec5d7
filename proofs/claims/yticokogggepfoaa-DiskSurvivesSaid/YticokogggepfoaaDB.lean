/- The program's disk: a file's place, a counted write, the fall. No condition but what the disk holds. -/
import Derived.Test.YticokogggepfoaaDA
namespace Go.Proofs.Yticokogggepfoaa.D
open Go.RowKit Go.Proofs.YticokogggepfoaaW.PrintWords Go.Proofs.YticokogggepfoaaW.PrintLast Go.Proofs.YticokogggepfoaaW.PrintMore
attribute [local go_sem] max2_int min2_int max_two min_two max_three min_three max_four min_four
set_option linter.unusedVariables false
set_option linter.unusedSimpArgs false
set_option maxRecDepth 100000
/-! ### file -/
theorem file_bad (p : Value) (n : Int) (hn : n < 0 ∨ 2 ≤ n) (W : World) : Calls Try.prog 32 #[p, .int .i64 n] W fun e W' => e = .returned (.tuple #[.pointer none, .int .i64 50]) ∧ W = W' := by
  rcases hn with h | h
  · have h2 : decide (n < 0) = true := decide_eq_true h
    go_enter Try.func32, Try.ntmps32
    go_wp2
    go_ret2
    exact ⟨rfl, rfl⟩
  · have h2 : decide (n < 0) = false := decide_eq_false (by omega)
    have h3 : decide (2 ≤ n) = true := decide_eq_true h
    go_enter Try.func32, Try.ntmps32
    go_wp2
    go_ret2
    exact ⟨rfl, rfl⟩
section
variable {W : World} {B g : Nat} {ok : Nat → Prop} {p : PM} {v0 v1 va : Value}
theorem file_down (n : Int) (h0 : 0 ≤ n) (h1 : n < 2) (h : RepV W B ok g p v0 v1 va) (hd : p.dn = true) :
    Calls Try.prog 32 #[.pointer (some ⟨g, 0, none⟩), .int .i64 n] W fun e W' => e = .returned (.tuple #[.pointer none, .int .i64 51]) ∧ W = W' := by
  obtain ⟨c0, c1, c2, c3, c4, c5, c6⟩ := dc_cells h.blk
  have h2 : decide (n < 0) = false := decide_eq_false (by omega)
  have h3 : decide (2 ≤ n) = false := decide_eq_false (by omega)
  rw [hd] at c5
  clear h c0 c1 c2 c3 c4 c6 hd
  go_enter Try.func32, Try.ntmps32
  go_wp2
  go_ret2
  exact ⟨rfl, rfl⟩
theorem file_up (n : Int) (h0 : 0 ≤ n) (h1 : n < 2) (h : RepV W B ok g p v0 v1 va) (hd : p.dn = false) :
    Calls Try.prog 32 #[.pointer (some ⟨g, 0, none⟩), .int .i64 n] W fun e W' => e = .returned (.tuple #[.pointer (some ⟨g, n.toNat * 2, none⟩), .int .i64 0]) ∧ W = W' := by
  obtain ⟨c0, c1, c2, c3, c4, c5, c6⟩ := dc_cells h.blk
  have h2 : decide (n < 0) = false := decide_eq_false (by omega)
  have h3 : decide (2 ≤ n) = false := decide_eq_false (by omega)
  rw [hd] at c5
  clear h c0 c1 c2 c3 c4 c6 hd
  go_enter Try.func32, Try.ntmps32
  go_wp2
  go_ret2
  exact ⟨rfl, rfl⟩
end
/-! ### write -/
def PM.write (p : PM) : PM × Bool := match p.ar with
  | [] => ({ p with wr := wrap64 (p.wr + 1) }, true)
  | a :: r => ({ p with wr := wrap64 (p.wr + 1), ar := (a.1 - 1, a.2) :: r }, decide (1 < a.1))
theorem cr_cells {W : World} {B : Nat} {ok : Nat → Prop} {ga o n c : Nat} {a : Int × Int} {r : List (Int × Int)} (h : Kd.Q Cr 61 W B ok (.slice (some ⟨ga, o, none⟩) n c) (a :: r)) :
    W.cell? ⟨ga, o, none⟩ = some (.int .i64 a.1) ∧ W.cell? ⟨ga, o + 1, none⟩ = some (.int .i64 a.2) ∧ W.frozen? ⟨ga, o, none⟩ = false ∧
    ∀ x, Kd.Q Cr 61 (W.setCell ⟨ga, o, none⟩ (.int .i64 x)) B ok (.slice (some ⟨ga, o, none⟩) n c) ((x, a.2) :: r) := by
  have hn := (Kd.Q_reads' h).1
  obtain ⟨cs, hcl, hM, hcc, hfr⟩ := Kd.Q_elem h (0, 0) 0 (Int.le_refl _) (by rw [hn]; simp)
  have hM' := hM
  obtain ⟨c0, c1, rfl, h0, h1⟩ := hM
  obtain rfl : c0 = [.int .i64 a.1] := h0
  obtain rfl : c1 = [.int .i64 a.2] := h1
  have e0 := hcc 0 _ rfl
  have e1 := hcc 1 _ rfl
  refine ⟨by simpa using e0, by simpa using e1, by simpa using hfr 0, fun x => ?_⟩
  have hs := (Kd.Q_seg h 0 (Int.le_refl _) (by rw [hn]; simp) (seg := [.int .i64 x]) (j := 0) hcl hcc (show 0 + 1 ≤ 2 by decide) (x' := (x, a.2)) (okp := fun k => ok k ∧ k ≠ ga) ⟨[.int .i64 x], [.int .i64 a.2], rfl, rfl, rfl⟩ (fun _ hk => hk)).1
  simpa [World.setCells] using hs
theorem RepV.set_left {W : World} {B g : Nat} {ok : Nat → Prop} {p : PM} {v0 v1 : Value} {ga o n c : Nat} {a : Int × Int} {r : List (Int × Int)} (h : RepV W B ok g p v0 v1 (.slice (some ⟨ga, o, none⟩) n c)) (har : p.ar = a :: r) (x : Int) :
    RepV (W.setCell ⟨ga, o, none⟩ (.int .i64 x)) B ok g { p with ar := (x, a.2) :: r } v0 v1 (.slice (some ⟨ga, o, none⟩) n c) := by
  have hra := h.ra
  obtain ⟨cells, hc⟩ := Kd.Q_typed hra ga (by simp [Value.ownBlock])
  rw [har] at hra
  exact ⟨blk_far h.blk (blk_ne h.blk hc (by decide)) _, Kd.R_set h.r0 hc (by decide) _ _, Kd.R_set h.r1 hc (by decide) _ _, (cr_cells hra).2.2.2 x, h.okg, h.bg⟩
theorem write_calls {W : World} {B g : Nat} {ok : Nat → Prop} {p : PM} (h : Rep W B ok g p) (hp : p.ok) :
    Calls Try.prog 33 #[.pointer (some ⟨g, 0, none⟩)] W fun e W' => e = .returned (.bool p.write.2) ∧ Rep W' B ok g p.write.1 ∧ Upd W W' ok := by
  obtain ⟨v0, v1, va, h⟩ := h
  obtain ⟨c0, c1, c2, c3, c4, c5, c6⟩ := dc_cells h.blk
  have hf := blk_frozen h.blk
  cases har : p.ar with
  | nil =>
    obtain ⟨A, c, rfl, hc⟩ := Kd.Q_slice h.ra
    have e : p.write = ({ p with wr := wrap64 (p.wr + 1) }, true) := by unfold PM.write; rw [har]
    have H := Aside0.mk h
    have HE := Aside0.mk e
    rw [har] at c4
    clear h hc e har c0 c1 c2 c3 c5 hp
    go_enter Try.func33, Try.ntmps33
    go_wp2
    go_ret
    rw [HE.out]
    exact ⟨rfl, ⟨_, _, _, H.out.set_wr _⟩, (Upd.refl _ _).setCell (fun _ => H.out.okg) _⟩
  | cons a r =>
    obtain ⟨ga, o, c, rfl, hb, hlt, cells, hcells⟩ := Kd.Q_form h.ra (by rw [har]; simp)
    have hra := h.ra
    rw [har] at hra c4
    obtain ⟨d0, d1, df, dset⟩ := cr_cells hra
    have ha := hp.ha a (by rw [har]; simp)
    have hga : g ≠ ga := blk_ne h.blk hcells (by decide)
    have e : p.write = ({ p with wr := wrap64 (p.wr + 1), ar := (a.1 - 1, a.2) :: r }, decide (1 < a.1)) := by unfold PM.write; rw [har]
    have H := Aside0.mk h
    have HE := Aside0.mk e
    have HA := Aside0.mk har
    have a1 := ha.1
    have a2 := ha.2.1
    have hz : decide (((a :: r).length : Int) = 0) = false := by simp; omega
    have hlen : 0 < (a :: r).length := by simp
    clear h hra e c0 c1 c2 c3 c5 hp ha hb hlt hcells dset har d1
    go_enter Try.func33, Try.ntmps33
    go_wp2
    go_ret
    rw [HE.out]
    have h1 := (H.out.set_wr (wrap64 (p.wr + 1))).set_left HA.out (a.1 - 1)
    refine ⟨rfl, ⟨_, _, _, h1⟩, ((Upd.refl _ _).setCell (fun _ => H.out.okg) _).setCell (fun _ => H.out.ra.1 ga (by simp [Value.ownBlock])) _⟩
end Go.Proofs.Yticokogggepfoaa.D
