/- same of all kinds; a script's operations read; slices that may be written full; DiskForgets' parts. No condition but that the disks are whole and apart. -/
import Derived.Test.YticokogggepfoaaLL
namespace Go.Proofs.Yticokogggepfoaa.D
open Go.RowKit Go.Proofs.YticokogggepfoaaW.PrintWords Go.Proofs.YticokogggepfoaaW.PrintLast Go.Proofs.YticokogggepfoaaW.PrintMore Go.Proofs.Yticokogggepfoaa.G
set_option linter.unusedVariables false
set_option linter.unusedSimpArgs false
set_option maxRecDepth 100000
theorem Rep.lower {W : World} {B B' g : Nat} {ok : Nat → Prop} {p : PM} (h : Rep W B ok g p) (hB : B' ≤ B) : Rep W B' ok g p := by
  obtain ⟨a, b, c, h⟩ := h
  exact ⟨a, b, c, h.blk, Kd.R_lower h.r0 hB, Kd.R_lower h.r1 hB, Kd.Q_lower h.ra hB, h.okg, Nat.le_trans hB h.bg⟩
/-- An operation, as it is read. -/
def OpK : Kd OM := Kd.iso (Kd.pair (Kd.int .i64) (Kd.pair Kd.bool (Kd.pair (Kd.int .i64) (Kd.pair (Kd.int .i64) (Kd.pair (Kd.int .i64) (Kd.slice 5 (Kd.int .u8))))))) (fun x : OM => (x.kd, x.ot, x.fl, x.a, x.b, x.data))
theorem add_next (ad : Addr) (n k : Nat) (hk : 0 < k) : (⟨(ad.add n).block, (ad.add n).off + k, none⟩ : Addr) = ad.add (n + k) := by
  unfold Addr.add
  rw [if_neg (show ¬ n + k = 0 by omega)]
  by_cases hn : n = 0
  · rw [if_pos hn, hn, Nat.zero_add]
  · rw [if_neg hn]; simp only [Nat.add_assoc]
theorem op_at {w : World} {A : Option Addr} {n : Nat} {xs : List OM} (h : Kd.C OpK w A n xs) (i : Nat) (hi : i < xs.length) : ∃ ad A0 c0, A = some ad ∧
    w.cell? (ad.add (i * 6)) = some (.int .i64 xs[i].kd) ∧ w.cell? ⟨(ad.add (i * 6)).block, (ad.add (i * 6)).off + 1, none⟩ = some (.bool xs[i].ot) ∧ w.cell? ⟨(ad.add (i * 6)).block, (ad.add (i * 6)).off + 2, none⟩ = some (.int .i64 xs[i].fl) ∧ w.cell? ⟨(ad.add (i * 6)).block, (ad.add (i * 6)).off + 3, none⟩ = some (.int .i64 xs[i].a) ∧ w.cell? ⟨(ad.add (i * 6)).block, (ad.add (i * 6)).off + 4, none⟩ = some (.int .i64 xs[i].b) ∧ w.cell? ⟨(ad.add (i * 6)).block, (ad.add (i * 6)).off + 5, none⟩ = some (.slice A0 xs[i].data.length c0) ∧
    xs[i].data.length ≤ c0 ∧ Kd.C By w A0 xs[i].data.length xs[i].data := by
  obtain ⟨ad, c, e, _, hK, hc0⟩ := Kd.C_get h (⟨0, false, 0, 0, 0, []⟩ : OM) (i : Int) (by omega) (by rw [← Kd.C_len h]; omega)
  rw [Int.toNat_natCast, List.getD_eq_getElem?_getD, List.getElem?_eq_getElem hi] at hK
  have hc : ∀ j u, c[j]? = some u → w.cell? (ad.add (i * 6 + j)) = some u := by rw [Int.toNat_natCast] at hc0; exact hc0
  have hd : ∀ j u, 0 < j → c[j]? = some u → w.cell? ⟨(ad.add (i * 6)).block, (ad.add (i * 6)).off + j, none⟩ = some u := fun j u hj hu => by rw [add_next ad (i * 6) j hj]; exact hc j u hu
  obtain ⟨e0, r0, rfl, h0, f0, r1, rfl, h1, f1, r2, rfl, h2, f2, r3, rfl, h3, f3, r4, rfl, h4, hs⟩ := hK
  obtain rfl : e0 = [.int .i64 xs[i].kd] := h0
  obtain rfl : f0 = [.bool xs[i].ot] := h1
  obtain rfl : f1 = [.int .i64 xs[i].fl] := h2
  obtain rfl : f2 = [.int .i64 xs[i].a] := h3
  obtain rfl : f3 = [.int .i64 xs[i].b] := h4
  obtain ⟨A0, c0, rfl, l0, g0⟩ := hs
  exact ⟨ad, A0, c0, e, by have h_ := hc 0 _ rfl; rwa [Nat.add_zero] at h_, hd 1 _ (by decide) rfl, hd 2 _ (by decide) rfl, hd 3 _ (by decide) rfl, hd 4 _ (by decide) rfl, hd 5 _ (by decide) rfl, l0, g0⟩
section
variable {W w w' : World} {g1 g2 : Nat} {p : PM} {m : OM} {A : Option Addr} {c : Nat}
/-- same, of a disk and of one whose count of writes alone differs: true. -/
theorem same_calls (base : Int) (h : Pr W w g1 p g2 (p.sh base)) (hp : p.ok) (hC : Kd.C By W A m.data.length m.data) (hc : m.data.length ≤ c) (hl : m.data.length < 140737488355328) :
    Calls Try.prog 30 #[.pointer (some ⟨g1, 0, none⟩), .pointer (some ⟨g2, 0, none⟩), .agg (OV m A c), .int .i64 base] w fun e w' => e = .returned (.bool true) ∧ Pr W w' g1 (m.next p) g2 ((m.next p).sh base) := by
  have hq : (p.sh base).ok := ar_ok hp rfl rfl rfl rfl rfl
  by_cases h5 : m.kd = 5
  · have e : m.next p = p := by unfold OM.next; rw [if_pos (by omega)]
    rw [e]
    refine (same_read h hp hq h5 base).mono fun e w' ⟨he, hr⟩ => ⟨?_, hr⟩
    rw [he, read_sh]; simp
  by_cases h6 : m.kd = 6
  · have e : m.next p = p := by unfold OM.next; rw [if_pos (by omega)]
    rw [e]
    refine (same_dur h hp hq h6 base).mono fun e w' ⟨he, hr⟩ => ⟨?_, hr⟩
    rw [he, dur_sh]; simp
  by_cases h10 : m.kd = 10
  · have e : m.next p = p := by unfold OM.next; rw [if_pos (by omega)]
    rw [e]
    refine (same_down h h10 base).mono fun e w' ⟨he, hr⟩ => ⟨?_, hr⟩
    rw [he, show (p.sh base).dn = p.dn from rfl]; simp
  by_cases h11 : m.kd = 11
  · have e : m.next p = p := by unfold OM.next; rw [if_pos (by omega)]
    rw [e]
    refine (same_writes h h11 base).mono fun e w' ⟨he, hr⟩ => ⟨?_, hr⟩
    rw [he, show (p.sh base).wr = wrap64 (p.wr - base) from rfl]; simp
  · have e : m.next p = (m.done p).1 := by unfold OM.next; rw [if_neg (by omega)]
    rw [e]
    refine (same_done h hp hq hC hc hl (by omega) base).mono fun e w' ⟨he, hr⟩ => ⟨?_, ?_⟩
    · rw [he, done_sh]; simp
    · rwa [done_sh] at hr
end
/-! ### A slice that may be written full -/
/-- n bytes that may be written, in a block that o does not hold, behind the first B. -/
def Wb (B : Nat) (w : World) (o : Nat → Prop) (v : Value) (n : Nat) : Prop := ∃ A c, v = .slice A n c ∧ n ≤ c ∧ (0 < n → ∃ b f cells, A = some ⟨b, f, none⟩ ∧ ¬ o b ∧ B ≤ b ∧ w.heap[b]? = some (.cells cells 5 (0, 0)) ∧ f + n ≤ cells.size)
theorem wb_of_sl {W0 w : World} {v : Value} {l : List Int} {o : Nat → Prop} {B : Nat} (h : Sl W0 w v l) (ho : ∀ k, o k → k < w.heap.size → k ≤ W0.heap.size + 1) (hB : B ≤ W0.heap.size) : Wb B w o v l.length := by
  obtain ⟨A, c, rfl, h1, h2, h3⟩ := h
  refine ⟨A, c, rfl, h1, fun hn => ?_⟩
  have hC := f_now h2
  obtain ⟨ad, rfl, hc⟩ := hC.2.2 hn
  have h0 : ∀ j, j < l.length → ∃ u, w.cell? (ad.add j) = some u := fun j hj => by
    obtain ⟨c, hl, hK, hcc⟩ := hc j l[j] (by simp [hj])
    obtain rfl : c = [.int .u8 l[j]] := hK
    exact ⟨_, by have h_ := hcc 0 _ rfl; rw [Nat.add_zero, show By.sz = 1 from rfl, Nat.mul_one] at h_; exact h_⟩
  obtain ⟨b, f, s⟩ := ad
  obtain ⟨hk, cells, hb⟩ := h3 b rfl
  obtain ⟨u, hu⟩ := h0 0 hn
  obtain ⟨u2, hu2⟩ := h0 (l.length - 1) (by omega)
  have hs : s = none := by
    cases s with
    | none => rfl
    | some s => simp [World.cell?, Addr.add, hb] at hu
  subst hs
  refine ⟨b, f, cells, rfl, fun h_ => by have := ho b h_ (blk_lt hb); omega, by omega, hb, ?_⟩
  by_cases h1' : l.length = 1
  · rw [h1']; simp [World.cell?, Addr.add, hb] at hu; obtain ⟨hz, _⟩ := Array.getElem?_eq_some_iff.1 hu; omega
  · have e : (⟨b, f, none⟩ : Addr).add (l.length - 1) = ⟨b, f + (l.length - 1), none⟩ := by unfold Addr.add; rw [if_neg (by omega)]
    rw [e] at hu2
    simp only [World.cell?, hb, Option.isSome_none, Bool.false_eq_true, if_false] at hu2
    obtain ⟨hz, _⟩ := Array.getElem?_eq_some_iff.1 hu2; omega
theorem Wb.below {B : Nat} {w w' : World} {o : Nat → Prop} {v : Value} {n : Nat} (h : Wb B w o v n) (hb : Below w.heap.size w w') : Wb B w' o v n := by
  obtain ⟨A, c, rfl, h1, h2⟩ := h
  refine ⟨A, c, rfl, h1, fun hn => ?_⟩
  obtain ⟨b, f, cells, e, h3, h4, h5, h6⟩ := h2 hn
  exact ⟨b, f, cells, e, h3, h4, (hb.block b (blk_lt h5)).trans h5, h6⟩
theorem Wb.mono {B : Nat} {w : World} {o o' : Nat → Prop} {v : Value} {n : Nat} (h : Wb B w o v n) (ho : ∀ k, k < w.heap.size → o' k → o k) : Wb B w o' v n := by
  obtain ⟨A, c, rfl, h1, h2⟩ := h
  refine ⟨A, c, rfl, h1, fun hn => ?_⟩
  obtain ⟨b, f, cells, e, h3, h4, h5, h6⟩ := h2 hn
  exact ⟨b, f, cells, e, fun h_ => h3 (ho b (blk_lt h5) h_), h4, h5, h6⟩
theorem Wb.set {B : Nat} {w : World} {o : Nat → Prop} {v : Value} {n b j t : Nat} {cs : Array Value} {u : Value} (h : Wb B w o v n) (hb : w.heap[b]? = some (.cells cs t (0, 0))) : Wb B (w.setCell ⟨b, j, none⟩ u) o v n := by
  obtain ⟨A, c, rfl, h1, h2⟩ := h
  refine ⟨A, c, rfl, h1, fun hn => ?_⟩
  obtain ⟨b', f, cells, e, h3, h4, h5, h6⟩ := h2 hn
  by_cases he : b' = b
  · subst he
    exact ⟨b', f, _, e, h3, h4, blk_set h5 j u, by rw [Array.size_setIfInBounds]; exact h6⟩
  · exact ⟨b', f, cells, e, h3, h4, blk_far h5 he u, h6⟩
/-- Two disks apart, the box of what side told of the first, and its two rows of durable bytes, which may be written. -/
structure PrW (W w : World) (x : Nat) (v0 v1 v2 v3 : Value) (dn : Bool) (n2 n3 : Nat) (g1 : Nat) (p1 : PM) (g2 : Nat) (p2 : PM) (o1 o2 : Nat → Prop) : Prop where
  d1 : Dk W w o1 g1 p1
  d2 : Dk W w o2 g2 p2
  apart : ∀ k, o1 k → ¬ o2 k
  w2 : Wb W.heap.size w (fun k => o1 k ∨ o2 k) v2 n2
  w3 : Wb W.heap.size w (fun k => o1 k ∨ o2 k) v3 n3
  box : w.heap[x]? = some (.cells #[v0, v1, v2, v3, .bool dn] 41 (0, 0))
section
variable {W w : World} {x : Nat} {v0 v1 v2 v3 : Value} {dn : Bool} {n2 n3 g1 g2 : Nat} {p1 p2 : PM} {o1 o2 : Nat → Prop}
theorem PrW.pr (h : PrW W w x v0 v1 v2 v3 dn n2 n3 g1 p1 g2 p2 o1 o2) : Pr W w g1 p1 g2 p2 := ⟨o1, o2, h.d1, h.d2, h.apart⟩
theorem PrW.put {b j : Nat} {cells : Array Value} (h : PrW W w x v0 v1 v2 v3 dn n2 n3 g1 p1 g2 p2 o1 o2) (hb : w.heap[b]? = some (.cells cells 5 (0, 0))) (hB : W.heap.size ≤ b) (ho : ¬ (o1 b ∨ o2 b)) (u : Value) :
    PrW W (w.setCell ⟨b, j, none⟩ u) x v0 v1 v2 v3 dn n2 n3 g1 p1 g2 p2 o1 o2 := by
  have hU : Upd w (w.setCell ⟨b, j, none⟩ u) (fun k => k = b) := Upd.setCell (S := fun k => k = b) (Upd.refl w _) (p := ⟨b, j, none⟩) (fun _ => rfl) u
  refine ⟨⟨h.d1.rep.upd hU (fun k hk _ he => ho (.inl (he ▸ hk))), fun k hk => Nat.lt_of_lt_of_le (h.d1.lt k hk) hU.size, h.d1.lo, h.d1.below.setCell hB u⟩, ⟨h.d2.rep.upd hU (fun k hk _ he => ho (.inr (he ▸ hk))), fun k hk => Nat.lt_of_lt_of_le (h.d2.lt k hk) hU.size, h.d2.lo, h.d2.below.setCell hB u⟩, h.apart, h.w2.set hb, h.w3.set hb, ?_⟩
  exact blk_far h.box (blk_ne h.box hb (by decide)) u
theorem pw_cells (h : PrW W w x v0 v1 v2 v3 dn n2 n3 g1 p1 g2 p2 o1 o2) : w.cell? ⟨x, 2, none⟩ = some v2 ∧ w.cell? ⟨x, 3, none⟩ = some v3 := ⟨(blk_cell h.box _).trans rfl, (blk_cell h.box _).trans rfl⟩
/-- The place of a byte that is written. -/
theorem wb_at {B : Nat} {o : Nat → Prop} {A : Option Addr} {n c i : Nat} (h : Wb B w o (.slice A n c) n) (hi : i < n) : ∃ b f cells u, A = some ⟨b, f, none⟩ ∧ (⟨b, f, none⟩ : Addr).add i = ⟨b, f + i, none⟩ ∧ ¬ o b ∧ B ≤ b ∧ w.heap[b]? = some (.cells cells 5 (0, 0)) ∧ w.cell? ⟨b, f + i, none⟩ = some u ∧ w.frozen? ⟨b, f + i, none⟩ = false := by
  obtain ⟨A', c', e, h1, h2⟩ := h
  injection e with e1 e2 e3
  subst e1 e3
  obtain ⟨b, f, cells, rfl, h3, h4, h5, h6⟩ := h2 (by omega)
  have hlt : f + i < cells.size := by omega
  refine ⟨b, f, cells, cells[f + i], rfl, ?_, h3, h4, h5, ?_, blk_frozen h5 _⟩
  · unfold Addr.add; split
    · rename_i h0; rw [h0, Nat.add_zero]
    · rfl
  · rw [blk_cell h5]; simp [hlt]
end
end Go.Proofs.Yticokogggepfoaa.D
