/- A shelf that is filled: byte strings laid on it one by one, or another shelf's all together. No condition. -/
import Derived.Test.YtgfjmpnlkjocaaaDoorFC
namespace Go.Proofs.YtgfjmpnlkjocaaaDoor.J
open Go.RowKit Go.Proofs.YtgfjmpnlkjocaaaDoorW.PrintWords Go.Proofs.YtgfjmpnlkjocaaaDoorW.PrintLast Go.Proofs.YtgfjmpnlkjocaaaDoorW.PrintMore
set_option linter.unusedVariables false
set_option linter.unusedSimpArgs false
set_option maxRecDepth 100000
/-- The shelf with what its byte strings hold; nothing elder than N is the shelf's. -/
structure SR (w : World) (N : Nat) (own : Nat → Nat) (v : Value) (ls : List (List Int)) : Prop where
  row : ∃ rows : List (List Value), rows.length = ls.length ∧ Kd.R (Kd.raw 1) 23 w N (fun k => own k = 1) v rows ∧ ∀ (i : Nat) (l : List Int), ls[i]? = some l → ∃ A c, rows[i]? = some ([.slice A l.length c] : List Value) ∧ Kd.R By 5 w N (fun k => own k = 3 + i) (.slice A l.length c) l
  lt : ∀ k, own k ≠ 0 → k < w.heap.size
  n2 : ∀ k, own k ≠ 2
section
variable {w w' : World} {N : Nat} {own own' : Nat → Nat} {v : Value} {ls : List (List Int)} {S : Nat → Prop}
theorem SR.nil (w : World) (N : Nat) : SR w N (fun _ => 0) (.slice none 0 0) [] := ⟨⟨[], rfl, Kd.R_nil _ _ _ _ _, fun i l hi => by simp at hi⟩, fun k hk => absurd rfl hk, fun k => by decide⟩
theorem SR.next (h : SR w N own v ls) (hb : Below w.heap.size w w') : SR w' N own v ls := by
  obtain ⟨rows, e, hr, hx⟩ := h.row
  refine ⟨⟨rows, e, Kd.R_step hr (fun k _ hlt => hb.block k hlt), fun i l hi => ?_⟩, fun k hk => Nat.lt_of_lt_of_le (h.lt k hk) hb.size, h.n2⟩
  obtain ⟨A, c, h1, h2⟩ := hx i l hi
  exact ⟨A, c, h1, Kd.R_step h2 (fun k _ hlt => hb.block k hlt)⟩
theorem SR.slice (h : SR w N own v ls) : ∃ A c, v = .slice A ls.length c ∧ ls.length ≤ c := by
  obtain ⟨rows, e, hr, hx⟩ := h.row
  obtain ⟨A, c, rfl, hc⟩ := rsl hr
  exact ⟨A, c, by rw [e], by omega⟩
theorem SR.sk (h : SR w N own v ls) : SK w N own v (ls.map List.length) (fun _ => 0) := by
  obtain ⟨rows, e, hr, hx⟩ := h.row
  refine ⟨rows, by rw [List.length_map]; exact e, hr, fun i n hi => ?_⟩
  rw [List.getElem?_map] at hi
  obtain ⟨l, hl, rfl⟩ := Option.map_eq_some_iff.1 hi
  obtain ⟨A, c, h1, h2⟩ := hx i l hl
  exact ⟨A, c, h1, mk_row h2 _⟩
end
/-- append(out, x): one more on the shelf. -/
theorem sr_append {w : World} {N : Nat} {own : Nat → Nat} {v : Value} {ls : List (List Int)} {ops : Array Oper} {rest : List Oper} {od : Oper} {a : Act} {Q : Exit → Act → World → Prop}
    (hgd : od.guard = none) (s x : Operand) (hop : od.op = Op.call { callee := Callee.builtin Builtin.append, args := #[s, x], argTypes := #[30, 30] })
    {A : Option Addr} {c : Nat} {l : List Int} {okx : Nat → Prop} (hs : a.eval s = v) (hx : a.eval x = .slice (some ⟨w.heap.size, 0, none⟩) 1 1) (h : SR w N own v ls) (hR : Kd.R By 5 w N okx (.slice A l.length c) l) (hok : ∀ k, okx k → own k = 0) (hl : ls.length ≤ 1000000) (hN : N ≤ w.heap.size)
    (hK : ∀ v1 w1 own1, SR w1 N own1 v1 (ls ++ [l]) → Upd w w1 (fun k => own k = 1) → (∀ k, own1 k ≠ 0 → own k ≠ 0 ∨ okx k ∨ w.heap.size ≤ k) → (∀ k, own k ≠ 0 → own1 k = own k) → wpList Tryd.prog ops Q rest (a.put od.dst v1) w1) :
    wpList Tryd.prog ops Q (od :: rest) a (w.alloc (.cells #[.slice A l.length c] 23)) := by
  classical
  obtain ⟨rows, e, hr, hxs⟩ := h.row
  refine Kd.R_append (Kd.raw 1) (w0 := w) N hgd s x 30 23 (.slice none 0 0) 24 hop Tryd.underlying30 info23 rfl (by decide) (by decide) v rows [.slice A l.length c] [.slice A l.length c] (fun k => own k = 1 ∨ w.heap.size ≤ k) (fun _ => False) hs hx ⟨rfl, rfl, fun u hu => by simp at hu; subst hu; rfl⟩ (fun _ hk => hk.elim) (fun _ hk => .inr hk) (Kd.R_mono hr (fun k hk => .inl hk)) (Below.refl _ _) hN (by rw [e]; omega) ?_
  intro v1 w1 hr1 hb1 hg1 hat1
  have hU : Upd w w1 (fun k => own k = 1) := (Upd.refl w _).grown hg1 (fun k hk _ => hr.1 k hk)
  have hsz := hU.size
  refine hK v1 w1 (fun k => if own k ≠ 0 then own k else if okx k ∧ k < w.heap.size then 3 + ls.length else if w.heap.size ≤ k ∧ k < w1.heap.size then 1 else 0) ⟨⟨rows ++ [[.slice A l.length c]], by simp [e], ?_, fun i m hi => ?_⟩, fun k hk => ?_, fun k => ?_⟩ hU (fun k hk => ?_) (fun k hk => if_pos hk)
  · refine Kd.R_mono (Kd.R_bound hr1) (fun k hk => ?_)
    rcases hk.1 with h_ | h_
    · rw [if_pos (by omega)]; exact h_
    · have h0 : own k = 0 := by
        by_cases h0 : own k = 0
        · exact h0
        · have := h.lt k h0; omega
      rw [if_neg (by omega), if_neg (by omega), if_pos ⟨h_, hk.2.2.1⟩]
  · by_cases hil : i < ls.length
    · rw [List.getElem?_append_left hil] at hi
      obtain ⟨B, b, q1, q2⟩ := hxs i m hi
      refine ⟨B, b, by rw [List.getElem?_append_left (by omega)]; exact q1, Kd.R_mono (Kd.R_step q2 (fun k hk hlt => hU.block k hlt (by omega))) (fun k hk => ?_)⟩
      rw [if_pos (by omega)]; exact hk
    · rw [List.getElem?_append_right (by omega)] at hi
      obtain ⟨hi0, rfl⟩ : i - ls.length = 0 ∧ m = l := by
        cases hc : i - ls.length with
        | zero => rw [hc] at hi; simp at hi; exact ⟨rfl, hi.symm⟩
        | succ q => rw [hc] at hi; simp at hi
      refine ⟨A, c, by rw [List.getElem?_append_right (by omega), e, hi0]; rfl, Kd.R_mono (Kd.R_step (Kd.R_bound hR) (fun k hk hlt => hU.block k hlt (by have := hok k hk.1; omega))) (fun k hk => ?_)⟩
      have := hok k hk.1
      rw [if_neg (by omega), if_pos ⟨hk.1, hk.2.2.1⟩]; omega
  · by_cases h1 : own k ≠ 0
    · have := h.lt k h1; omega
    · rw [if_neg h1] at hk
      by_cases h2 : okx k ∧ k < w.heap.size
      · omega
      · rw [if_neg h2] at hk
        by_cases h3 : w.heap.size ≤ k ∧ k < w1.heap.size
        · exact h3.2
        · rw [if_neg h3] at hk; exact absurd rfl hk
  · by_cases h1 : own k ≠ 0
    · rw [if_pos h1]; exact h.n2 k
    · rw [if_neg h1]; split
      · omega
      · split <;> omega
  · by_cases h1 : own k ≠ 0
    · exact .inl h1
    · rw [if_neg h1] at hk
      by_cases h2 : okx k ∧ k < w.heap.size
      · exact .inr (.inl h2.1)
      · rw [if_neg h2] at hk
        by_cases h3 : w.heap.size ≤ k ∧ k < w1.heap.size
        · exact .inr (.inr h3.1)
        · rw [if_neg h3] at hk; exact absurd rfl hk
/-- A shelf's own row, its cells as they are. -/
theorem s_rows {w : World} {N : Nat} {okS : Nat → Prop} {v : Value} {l : List (List Int)} (h : Kd.S (Kd.slice 5 By) 23 w N okS v l) : ∃ (f : Nat → Nat) (rl : List (List Value)), rl.length = l.length ∧ Kd.R (Kd.raw 1) 23 w N okS v rl ∧ ∀ (i : Nat) (x : List Int), l[i]? = some x → ∃ A c, rl[i]? = some ([.slice A x.length c] : List Value) ∧ Kd.R By 5 w N (fun k => okS k ∧ f k = i) (.slice A x.length c) x := by
  obtain ⟨f, h0, inner, hown, hr⟩ := h
  have hl : inner.length = l.length := by have := hr.1; rw [List.length_zipIdx] at this; simpa [Kd.tag, Kd.slice] using this
  have hat : ∀ (i : Nat) (x : List Int), l[i]? = some x → ∃ A c, inner[i]? = some (.slice A x.length c) ∧ Kd.R By 5 w N (fun k => okS k ∧ f k = i) (.slice A x.length c) x := by
    intro i x hi
    obtain ⟨u, hu, hR⟩ := hr.2 i (x, i) (Kd.zip_at hi)
    have hil := (List.getElem?_eq_some_iff.1 hi).1
    have e : (inner.drop (i * 1)).take 1 = [u] := hu
    rw [Nat.mul_one, List.drop_eq_getElem_cons (by omega), List.take_succ_cons, List.take_zero] at e
    injection e with e
    have hR2 : Kd.R By 5 w N (fun k => okS k ∧ f k = i) u x := Kd.R_mono hR (fun k hk => ⟨hk.1.1, hk.2⟩)
    obtain ⟨A, c, rfl, _⟩ := rsl hR2
    exact ⟨A, c, by rw [List.getElem?_eq_getElem (by omega), e], hR2⟩
  refine ⟨f, inner.map (fun u => [u]), by rw [List.length_map]; exact hl, ⟨h0, inner, ?_, ⟨by rw [List.length_map]; show inner.length = inner.length * 1; omega, fun j p hj => ?_⟩⟩, fun i x hi => ?_⟩
  · rw [List.length_zipIdx] at hown; rw [List.length_map, hl]; exact hown
  · rw [List.getElem?_map] at hj
    obtain ⟨u, hu, rfl⟩ := Option.map_eq_some_iff.1 hj
    have hjl := (List.getElem?_eq_some_iff.1 hu).1
    have e : (inner.drop (j * 1)).take 1 = [u] := by
      rw [Nat.mul_one, List.drop_eq_getElem_cons hjl, List.take_succ_cons, List.take_zero]
      rw [List.getElem?_eq_getElem hjl] at hu
      rw [Option.some.inj hu]
    show (inner.drop (j * 1)).take 1 = [u] ∧ ((inner.drop (j * 1)).take 1).length = 1 ∧ _
    obtain ⟨A, c, h1, _⟩ := hat j (l[j]'(by omega)) (List.getElem?_eq_getElem (by omega))
    rw [hu] at h1
    obtain rfl := Option.some.inj h1
    exact ⟨e, by rw [e]; rfl, fun z hz => by rw [show List.take (Kd.raw 1).sz (List.drop (j * (Kd.raw 1).sz) inner) = [.slice A l[j].length c] from e] at hz; simp at hz; subst hz; rfl⟩
  · obtain ⟨A, c, h1, h2⟩ := hat i x hi
    exact ⟨A, c, by rw [List.getElem?_map, h1]; rfl, h2⟩
/-- append(out, l...): another shelf's byte strings, all of them. -/
theorem sr_append_all {w : World} {N : Nat} {own : Nat → Nat} {v : Value} {ls l : List (List Int)} {ops : Array Oper} {rest : List Oper} {od : Oper} {a : Act} {Q : Exit → Act → World → Prop}
    (hgd : od.guard = none) (s x : Operand) (hop : od.op = Op.call { callee := Callee.builtin Builtin.append, args := #[s, x], argTypes := #[30, 30] })
    {A : Option Addr} {c : Nat} {okS : Nat → Prop} (hs : a.eval s = v) (hx : a.eval x = .slice A l.length c) (h : SR w N own v ls) (hS : Kd.S (Kd.slice 5 By) 23 w N okS (.slice A l.length c) l) (hok : ∀ k, okS k → own k = 0) (hl : ls.length + l.length ≤ 1000000) (hN : N ≤ w.heap.size)
    (hK : ∀ v1 w1 own1, SR w1 N own1 v1 (ls ++ l) → Upd w w1 (fun k => own k = 1) → (∀ k, own1 k ≠ 0 → own k ≠ 0 ∨ okS k ∨ w.heap.size ≤ k) → (∀ k, own k ≠ 0 → own1 k = own k) → wpList Tryd.prog ops Q rest (a.put od.dst v1) w1) :
    wpList Tryd.prog ops Q (od :: rest) a w := by
  classical
  obtain ⟨rows, e, hr, hxs⟩ := h.row
  obtain ⟨f, rl, el, hrl, hxl⟩ := s_rows hS
  have hC := (Kd.R_reads' hrl).2.2
  rw [el] at hC
  refine Kd.R_append_rows (Kd.raw 1) (w0 := w) (Rr := (Kd.raw 1).K w) N hgd s x 30 23 (.slice none 0 0) 24 hop Tryd.underlying30 info23 rfl (by decide) (by decide) v rows rl A l.length c (fun k => own k = 1 ∨ w.heap.size ≤ k) (fun _ => False) hs hx (Kd.R_mono hr (fun k hk => .inl hk)) hC (fun _ _ hk => hk) (fun _ hk => hk.elim) (fun _ hk => .inr hk) (Below.refl _ _) hN (by rw [e]; omega) ?_
  intro v1 w1 hr1 hb1 hg1 hat1
  have hU : Upd w w1 (fun k => own k = 1) := (Upd.refl w _).grown hg1 (fun k hk _ => hr.1 k hk)
  have hsz := hU.size
  refine hK v1 w1 (fun k => if own k ≠ 0 then own k else if okS k ∧ k < w.heap.size then 3 + ls.length + f k else if w.heap.size ≤ k ∧ k < w1.heap.size then 1 else 0) ⟨⟨rows ++ rl, by simp [e, el], ?_, fun i m hi => ?_⟩, fun k hk => ?_, fun k => ?_⟩ hU (fun k hk => ?_) (fun k hk => if_pos hk)
  · refine Kd.R_mono (Kd.R_bound hr1) (fun k hk => ?_)
    rcases hk.1 with h_ | h_
    · rw [if_pos (by omega)]; exact h_
    · have h0 : own k = 0 := by
        by_cases h0 : own k = 0
        · exact h0
        · have := h.lt k h0; omega
      rw [if_neg (by omega), if_neg (by omega), if_pos ⟨h_, hk.2.2.1⟩]
  · by_cases hil : i < ls.length
    · rw [List.getElem?_append_left hil] at hi
      obtain ⟨B, b, q1, q2⟩ := hxs i m hi
      refine ⟨B, b, by rw [List.getElem?_append_left (by omega)]; exact q1, Kd.R_mono (Kd.R_step q2 (fun k hk hlt => hU.block k hlt (by omega))) (fun k hk => ?_)⟩
      rw [if_pos (by omega)]; exact hk
    · rw [List.getElem?_append_right (by omega)] at hi
      obtain ⟨B, b, q1, q2⟩ := hxl _ m hi
      refine ⟨B, b, by rw [List.getElem?_append_right (by omega), e]; exact q1, Kd.R_mono (Kd.R_step (Kd.R_bound q2) (fun k hk hlt => hU.block k hlt (by have := hok k hk.1.1; omega))) (fun k hk => ?_)⟩
      have := hok k hk.1.1
      rw [if_neg (by omega), if_pos ⟨hk.1.1, hk.2.2.1⟩]; have := hk.1.2; omega
  · by_cases h1 : own k ≠ 0
    · have := h.lt k h1; omega
    · rw [if_neg h1] at hk
      by_cases h2 : okS k ∧ k < w.heap.size
      · omega
      · rw [if_neg h2] at hk
        by_cases h3 : w.heap.size ≤ k ∧ k < w1.heap.size
        · exact h3.2
        · rw [if_neg h3] at hk; exact absurd rfl hk
  · by_cases h1 : own k ≠ 0
    · rw [if_pos h1]; exact h.n2 k
    · rw [if_neg h1]; split
      · omega
      · split <;> omega
  · by_cases h1 : own k ≠ 0
    · exact .inl h1
    · rw [if_neg h1] at hk
      by_cases h2 : okS k ∧ k < w.heap.size
      · exact .inr (.inl h2.1)
      · rw [if_neg h2] at hk
        by_cases h3 : w.heap.size ≤ k ∧ k < w1.heap.size
        · exact .inr (.inr h3.1)
        · rw [if_neg h3] at hk; exact absurd rfl hk
end Go.Proofs.YtgfjmpnlkjocaaaDoor.J
