/- same: one operation done to two disks, and told whether they answer alike. No condition but that the disks are whole and apart. -/
import Derived.Test.YticokogggepfoaaLG
namespace Go.Proofs.Yticokogggepfoaa.D
open Go.RowKit Go.Proofs.YticokogggepfoaaW.PrintWords Go.Proofs.YticokogggepfoaaW.PrintLast Go.Proofs.YticokogggepfoaaW.PrintMore Go.Proofs.Yticokogggepfoaa.G
attribute [local go_sem] max2_int min2_int max_two min_two max_three min_three max_four min_four
set_option linter.unusedVariables false
set_option linter.unusedSimpArgs false
set_option maxRecDepth 100000
section
variable {W w w' : World} {o1 o2 : Nat → Prop} {g1 g2 : Nat} {p1 p2 q1 q2 : PM} {m : OM} {A : Option Addr} {c : Nat}
/-- Two disks that the call made, apart from one another. -/
def Pr (W w : World) (g1 : Nat) (p1 : PM) (g2 : Nat) (p2 : PM) : Prop := ∃ o1 o2, Dk W w o1 g1 p1 ∧ Dk W w o2 g2 p2 ∧ ∀ k, o1 k → ¬ o2 k
theorem Pr.swap (h : Pr W w g1 p1 g2 p2) : Pr W w g2 p2 g1 p1 := by
  obtain ⟨o1, o2, h1, h2, hd⟩ := h
  exact ⟨o2, o1, h2, h1, fun k hk h_ => hd k h_ hk⟩
theorem Pr.keep (h : Pr W w g1 p1 g2 p2) (hb : Below w.heap.size w w') : Pr W w' g1 p1 g2 p2 := by
  obtain ⟨o1, o2, h1, h2, hd⟩ := h
  exact ⟨o1, o2, h1.keep hb, h2.keep hb, hd⟩
theorem Pr.below (h : Pr W w g1 p1 g2 p2) : Below W.heap.size W w := by
  obtain ⟨o1, o2, h1, h2, hd⟩ := h
  exact h1.below
/-- The same, with a block of the caller's own that neither disk holds. -/
def PrX (W w : World) (x : Nat) (g1 : Nat) (p1 : PM) (g2 : Nat) (p2 : PM) : Prop := x < w.heap.size ∧ ∃ o1 o2, Dk W w o1 g1 p1 ∧ Dk W w o2 g2 p2 ∧ (∀ k, o1 k → ¬ o2 k) ∧ ∀ k, o1 k ∨ o2 k → k ≠ x
theorem PrX.out {x : Nat} (h : PrX W w x g1 p1 g2 p2) : Pr W w g1 p1 g2 p2 := by
  obtain ⟨_, o1, o2, h1, h2, hd, _⟩ := h
  exact ⟨o1, o2, h1, h2, hd⟩
theorem PrX.swap {x : Nat} (h : PrX W w x g1 p1 g2 p2) : PrX W w x g2 p2 g1 p1 := by
  obtain ⟨hx, o1, o2, h1, h2, hd, hn⟩ := h
  exact ⟨hx, o2, o1, h2, h1, fun k hk h_ => hd k h_ hk, fun k hk => hn k hk.symm⟩
theorem Pr.box (h : Pr W w g1 p1 g2 p2) (o : Obj) : PrX W (w.alloc o) w.heap.size g1 p1 g2 p2 := by
  obtain ⟨o1, o2, h1, h2, hd⟩ := h
  exact ⟨by simp, o1, o2, h1.keep (bx w o), h2.keep (bx w o), hd, fun k hk => Nat.ne_of_lt (hk.elim (h1.lt k) (h2.lt k))⟩
/-- A call of the first disk. -/
theorem PrX.call {x : Nat} (h : PrX W w x g1 p1 g2 p2) {fn : FuncId} {args : Array Value} {r : PM × Int} (hc : ∀ o, Rep w W.heap.size o g1 p1 → W.heap.size ≤ w.heap.size → Calls Try.prog fn args w (Did w W.heap.size g1 o r)) :
    Calls Try.prog fn args w fun e w' => e = .returned (.int .i64 r.2) ∧ PrX W w' x g1 r.1 g2 p2 ∧ w'.heap[x]? = w.heap[x]? := by
  obtain ⟨hx, o1, o2, h1, h2, hd, hn⟩ := h
  refine (hc o1 h1.rep h1.bw).mono fun e w' ⟨he, hr, hu⟩ => ⟨he, ⟨Nat.lt_of_lt_of_le hx hu.size, _, o2, h1.step hr hu, ⟨h2.rep.upd hu (fun k hk _ h => hd k h hk), fun k hk => Nat.lt_of_lt_of_le (h2.lt k hk) hu.size, h2.lo, hu.below h1.below h1.lo h1.bw⟩, fun k hk h => hk.1.elim (fun h_ => hd k h_ h) (fun h_ => by have := h2.lt k h; omega), fun k hk => hk.elim (fun h_ => h_.1.elim (fun h3 => hn k (.inl h3)) (fun h3 => by omega)) (fun h_ => hn k (.inr h_))⟩, hu.block x hx (fun h_ => hn x (.inl h_) rfl)⟩
theorem Pr.rep (h : Pr W w g1 p1 g2 p2) : ∃ o, Rep w W.heap.size o g1 p1 := by
  obtain ⟨o1, o2, h1, h2, hd⟩ := h
  exact ⟨o1, h1.rep⟩
theorem pr_done {x : Nat} (h : PrX W w x g1 p1 g2 p2) (hp : p1.ok) (hC : Kd.C By w A m.data.length m.data) (hc : m.data.length ≤ c) (hl : m.data.length < 140737488355328) :
    Calls Try.prog 26 #[.pointer (some ⟨g1, 0, none⟩), .agg (OV m A c)] w fun e w' => e = .returned (.int .i64 (m.done p1).2) ∧ PrX W w' x g1 (m.done p1).1 g2 p2 ∧ w'.heap[x]? = w.heap[x]? :=
  h.call fun o hr hb => done_calls hr hp hb hC hc hl
theorem pr_read (h : Pr W w g1 p1 g2 p2) (hp : p1.ok) (n : Int) : Calls Try.prog 31 #[.pointer (some ⟨g1, 0, none⟩), .int .i64 n] w fun e w' => ∃ v, e = .returned (.tuple #[v, .int .i64 (p1.read n).2]) ∧ Fresh w (p1.read n).1 v w' := by
  obtain ⟨o, hr⟩ := h.rep
  exact read_calls hr hp n
theorem pr_dur (h : Pr W w g1 p1 g2 p2) (hp : p1.ok) (n : Int) : Calls Try.prog 17 #[.pointer (some ⟨g1, 0, none⟩), .int .i64 n] w fun e w' => ∃ v, e = .returned (.tuple #[v, .int .i64 (p1.dur n).2]) ∧ Fresh w (p1.dur n).1 v w' := by
  obtain ⟨o, hr⟩ := h.rep
  exact dur_calls hr hp n
theorem pr_down (h : Pr W w g1 p1 g2 p2) : Calls Try.prog 18 #[.pointer (some ⟨g1, 0, none⟩)] w fun e w' => e = .returned (.bool p1.dn) ∧ w = w' := by
  obtain ⟨o, hr⟩ := h.rep
  exact down_calls hr
theorem pr_writes (h : Pr W w g1 p1 g2 p2) : Calls Try.prog 19 #[.pointer (some ⟨g1, 0, none⟩)] w fun e w' => e = .returned (.int .i64 p1.wr) ∧ w = w' := by
  obtain ⟨o, hr⟩ := h.rep
  exact writes_calls hr
set_option maxHeartbeats 4000000 in
theorem same_done (h : Pr W w g1 p1 g2 p2) (hp : p1.ok) (hq : p2.ok) (hC : Kd.C By W A m.data.length m.data) (hc : m.data.length ≤ c) (hl : m.data.length < 140737488355328) (hk : ¬ (m.kd = 5 ∨ m.kd = 6 ∨ m.kd = 10 ∨ m.kd = 11)) (base : Int) :
    Calls Try.prog 30 #[.pointer (some ⟨g1, 0, none⟩), .pointer (some ⟨g2, 0, none⟩), .agg (OV m A c), .int .i64 base] w fun e w' => e = .returned (.bool (decide ((m.done p1).2 = (m.done p2).2))) ∧ Pr W w' g1 (m.done p1).1 g2 (m.done p2).1 := by
  have H := Aside0.mk h
  have HP := Aside0.mk hp
  have HQ := Aside0.mk hq
  have HC := Aside0.mk hC
  have HCC := Aside0.mk hc
  have HL := Aside0.mk hl
  obtain ⟨d1, hd1⟩ : ∃ d, d = m.done p1 := ⟨_, rfl⟩
  obtain ⟨d2, hd2⟩ : ∃ d, d = m.done p2 := ⟨_, rfl⟩
  rw [← hd1, ← hd2]
  have HD1 := Aside0.mk hd1
  have HD2 := Aside0.mk hd2
  have hu45 := Try.underlying45
  obtain ⟨kd, ot, fl, a, b, data⟩ := m
  clear h hp hq hC hc hl hd1 hd2
  dsimp only at hk
  have e1 : (kd == (5 : Int)) = false := by simp; omega
  have e2 : (kd == (6 : Int)) = false := by simp; omega
  have e3 : (kd == (10 : Int)) = false := by simp; omega
  have e4 : (kd == (11 : Int)) = false := by simp; omega
  clear hk
  go_enter Try.func30, Try.ntmps30
  go_wp2_with fail
  have hcw : ∀ w1, Below W.heap.size W w1 → Kd.C By w1 A data.length data := fun w1 hb => Kd.C_below HC.out hb
  have HCW := Aside0.mk hcw
  clear hcw
  refine (pr_done (m := ⟨kd, ot, fl, a, b, data⟩) (H.out.box _) HP.out (HCW.out _ (H.out.keep (bx w _)).below) HCC.out HL.out).mono ?_
  rintro e w1 ⟨rfl, h1, hx⟩
  rw [← HD1.out] at h1 ⊢
  have hx := hx.trans (heap_alloc_new w _)
  obtain ⟨x0, x1, x2, x3, x4, x5⟩ := ov_cells (m := ⟨kd, ot, fl, a, b, data⟩) hx
  have hfz := blk_frozen hx
  have H1 := Aside0.mk h1
  clear h1 hx
  go_wp2_with fail
  refine (pr_done (m := ⟨kd, ot, fl, a, b, data⟩) H1.out.swap HQ.out (HCW.out _ H1.out.out.below) HCC.out HL.out).mono ?_
  rintro e w2 ⟨rfl, h2, hx⟩
  rw [← HD2.out] at h2 ⊢
  have H2 := Aside0.mk h2
  clear h2 hx x0 x1 x2 x3 x4 x5
  go_wp2_with fail
  go_ret
  exact ⟨by first | rfl | (congr 1), H2.out.swap.out⟩
end
end Go.Proofs.Yticokogggepfoaa.D
