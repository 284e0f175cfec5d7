-- Written by stubprint.py (wip/) of this work, over the kit's print.py; parts by hand.
import Derived.Test.YtmppfpdaglkhkaaDoorQx0
import Derived.Test.YtmppfpdaglkhkaaDoorQx1
namespace Go.Proofs.YtmppfpdaglkhkaaDoor.Q
open Go.RowKit Go.Proofs.YtmppfpdaglkhkaaDoorW.PrintWords Go.Proofs.YtmppfpdaglkhkaaDoorW.PrintLast Go.Proofs.YtmppfpdaglkhkaaDoorW.PrintMore
attribute [local go_sem] max2_int min2_int max_two min_two max_three min_three max_four min_four   -- for this text's walks alone
set_option linter.unusedVariables false
set_option linter.unusedSimpArgs false

/-! ### ledger_Post: function 17 (by hand) -/
def ledger_Post.pl (p : Int × Int) (x : Int) : Int × Int := (wrap64 (wrap64 (p.1 + x / 9223372036854775808) + ledger_wide_plus.c p.2 x), ledger_wide_plus.s p.2 x)
def ledger_Post.mi (p : Int × Int) (x : Int) : Int × Int := (wrap64 (wrap64 (p.1 - x / 9223372036854775808) - ledger_wide_minus.c p.2 x), ledger_wide_minus.s p.2 x)
def ledger_Post.ok (p : Int × Int) : Prop := 0 ≤ p.2 ∧ p.2 ≤ 18446744073709551615
def ledger_Post.val (p : Int × Int) : Int := p.1 * 18446744073709551616 + p.2
abbrev ledger_Post.in64 (x : Int) : Prop := -9223372036854775808 ≤ x ∧ x ≤ 9223372036854775807
theorem ledger_Post.wrap_id {x : Int} (h : ledger_Post.in64 x) : wrap64 x = x := by unfold ledger_Post.in64 at h; unfold wrap64; omega
def ledger_Post.big (x : Int) : Prop := -85070591730234615865843651857942052864 ≤ x ∧ x ≤ 85070591730234615865843651857942052864
theorem ledger_Post.pl_ok (p : Int × Int) (x : Int) : ledger_Post.ok (ledger_Post.pl p x) := by
  unfold ledger_Post.ok ledger_Post.pl ledger_wide_plus.s; dsimp only; omega
theorem ledger_Post.mi_ok (p : Int × Int) (x : Int) : ledger_Post.ok (ledger_Post.mi p x) := by
  unfold ledger_Post.ok ledger_Post.mi ledger_wide_minus.s; dsimp only; omega
theorem ledger_Post.pl_val {p : Int × Int} (h : ledger_Post.ok p) {x : Int} (hx : ledger_Post.in64 x) (hv : ledger_Post.big (ledger_Post.val p)) : ledger_Post.val (ledger_Post.pl p x) = ledger_Post.val p + x := by
  unfold ledger_Post.ok at h; unfold ledger_Post.in64 at hx; unfold ledger_Post.big ledger_Post.val at hv
  have h1 : -4611686018427387905 ≤ p.1 ∧ p.1 ≤ 4611686018427387904 := by omega
  have h2 : -1 ≤ x / 9223372036854775808 ∧ x / 9223372036854775808 ≤ 0 := by omega
  have h3 : 0 ≤ ledger_wide_plus.c p.2 x ∧ ledger_wide_plus.c p.2 x ≤ 1 := by unfold ledger_wide_plus.c; omega
  have h4 : ledger_wide_plus.c p.2 x * 18446744073709551616 + ledger_wide_plus.s p.2 x = p.2 + x % 18446744073709551616 := by unfold ledger_wide_plus.c ledger_wide_plus.s; omega
  have h5 : x % 18446744073709551616 = x - (x / 9223372036854775808) * 18446744073709551616 := by omega
  unfold ledger_Post.val ledger_Post.pl
  rw [ledger_Post.wrap_id (x := p.1 + x / 9223372036854775808) (by unfold ledger_Post.in64; omega), ledger_Post.wrap_id (by unfold ledger_Post.in64; omega)]
  dsimp only; omega
theorem ledger_Post.mi_val {p : Int × Int} (h : ledger_Post.ok p) {x : Int} (hx : ledger_Post.in64 x) (hv : ledger_Post.big (ledger_Post.val p)) : ledger_Post.val (ledger_Post.mi p x) = ledger_Post.val p - x := by
  unfold ledger_Post.ok at h; unfold ledger_Post.in64 at hx; unfold ledger_Post.big ledger_Post.val at hv
  have h1 : -4611686018427387905 ≤ p.1 ∧ p.1 ≤ 4611686018427387904 := by omega
  have h2 : -1 ≤ x / 9223372036854775808 ∧ x / 9223372036854775808 ≤ 0 := by omega
  have h3 : 0 ≤ ledger_wide_minus.c p.2 x ∧ ledger_wide_minus.c p.2 x ≤ 1 := by unfold ledger_wide_minus.c; split <;> omega
  have h4 : ledger_wide_minus.s p.2 x - ledger_wide_minus.c p.2 x * 18446744073709551616 = p.2 - x % 18446744073709551616 := by unfold ledger_wide_minus.c ledger_wide_minus.s; split <;> omega
  have h5 : x % 18446744073709551616 = x - (x / 9223372036854775808) * 18446744073709551616 := by omega
  unfold ledger_Post.val ledger_Post.mi
  rw [ledger_Post.wrap_id (x := p.1 - x / 9223372036854775808) (by unfold ledger_Post.in64; omega), ledger_Post.wrap_id (by unfold ledger_Post.in64; omega)]
  dsimp only; omega
def ledger_Post.fits (p : Int × Int) : Bool := p.1 == wrap64 p.2 / 9223372036854775808 && wrap64 p.2 != -9223372036854775808
theorem ledger_Post.fits_iff {p : Int × Int} (h : ledger_Post.ok p) : ledger_Post.fits p = true ↔ (-9223372036854775808 < ledger_Post.val p ∧ ledger_Post.val p ≤ 9223372036854775807) := by
  unfold ledger_Post.ok at h; unfold ledger_Post.fits ledger_Post.val
  rw [Bool.and_eq_true, beq_iff_eq, bne_iff_ne]
  unfold wrap64; omega
theorem ledger_Post.fits_val {p : Int × Int} (h : ledger_Post.ok p) (hf : ledger_Post.fits p = true) : wrap64 p.2 = ledger_Post.val p := by
  have h2 := (ledger_Post.fits_iff h).1 hf
  unfold ledger_Post.ok at h; unfold ledger_Post.val at h2 ⊢; unfold wrap64; omega

def ledger_Post.err (e : S43) : Int := if e.f0 < 0 ∨ 12 ≤ e.f0 ∨ e.f1 < 0 ∨ 12 ≤ e.f1 ∨ e.f0 = e.f1 then 80 else if e.f2 < 1 then 4 else 0
theorem ledger_Post.err_zero {e : S43} (h : ledger_Post.err e = 0) : (0 ≤ e.f0 ∧ e.f0 < 12) ∧ (0 ≤ e.f1 ∧ e.f1 < 12) ∧ e.f0 ≠ e.f1 ∧ 1 ≤ e.f2 := by
  unfold ledger_Post.err at h
  split at h
  · cases h
  · split at h
    · cases h
    · omega
def ledger_Post.amt (i : Nat) (e : S43) : Int := (if e.f0 = (i : Int) then e.f2 else 0) - (if e.f1 = (i : Int) then e.f2 else 0)
def ledger_Post.tot (b : List Int) (l : List S43) (i : Nat) : Int := b.getD i 0 + (l.map (ledger_Post.amt i)).sum
def ledger_Post.bad : List S43 → Int
  | [] => 0
  | e :: es => if ledger_Post.err e = 0 then ledger_Post.bad es else ledger_Post.err e
def ledger_Post.side (o : Nat) : Int := ([1, 1, 1, 1, -1, -1, -1, -1, -1, 1, -1, 1] : List Int).getD o 0
def ledger_Post.wrong (i : Nat) (x : Int) : Bool := (decide (x < 0) && decide (ledger_Post.side i > 0)) || (decide (x > 0) && decide (ledger_Post.side i < 0))
def ledger_Post.inr (x : Int) : Bool := decide (-9223372036854775808 < x) && decide (x ≤ 9223372036854775807)
def ledger_Post.spec (b : List Int) (l : List S43) : List Int × Int :=
  if ledger_Post.bad l = 0 then
    if (List.range 12).all (fun i => ledger_Post.inr (ledger_Post.tot b l i)) = true then
      if (List.range 12).all (fun i => !ledger_Post.wrong i (ledger_Post.tot b l i)) = true then ((List.range 12).map (ledger_Post.tot b l), 0) else (b, 81)
    else (b, 3)
  else (b, ledger_Post.bad l)

def ledger_Post.zeros : List (Int × Int) := [(0, 0), (0, 0), (0, 0), (0, 0), (0, 0), (0, 0), (0, 0), (0, 0), (0, 0), (0, 0), (0, 0), (0, 0)]
def ledger_Post.nets (b : List Int) : Nat → List (Int × Int)
  | 0 => ledger_Post.zeros
  | n + 1 => (ledger_Post.nets b n).set n (ledger_Post.pl (0, 0) (b.getD n 0))
def ledger_Post.move1 (N : List (Int × Int)) (e : S43) : List (Int × Int) := N.set e.f0.toNat (ledger_Post.pl (N.getD e.f0.toNat (0, 0)) e.f2)
def ledger_Post.move2 (N : List (Int × Int)) (e : S43) : List (Int × Int) := N.set e.f1.toNat (ledger_Post.mi (N.getD e.f1.toNat (0, 0)) e.f2)
def ledger_Post.run (b : List Int) (l : List S43) (n : Nat) : List (Int × Int) := (l.take n).foldl (fun N e => ledger_Post.move2 (ledger_Post.move1 N e) e) (ledger_Post.nets b 12)
/-- The row stands for the numbers. -/
def ledger_Post.Stands (N : List (Int × Int)) (V : Nat → Int) : Prop := N.length = 12 ∧ ∀ i : Nat, ledger_Post.ok (N.getD i (0, 0)) ∧ (i < 12 → ledger_Post.val (N.getD i (0, 0)) = V i)
theorem ledger_Post.getD_set {α : Type} (N : List α) (i j : Nat) (p d : α) (h : i < N.length) : (N.set i p).getD j d = if i = j then p else N.getD j d := by
  rw [List.getD_eq_getElem?_getD, List.getElem?_set]
  by_cases e : i = j
  · rw [if_pos e, if_pos e, if_pos (by omega)]; rfl
  · rw [if_neg e, if_neg e, ← List.getD_eq_getElem?_getD]
theorem ledger_Post.Stands.set {N : List (Int × Int)} {V V' : Nat → Int} (h : ledger_Post.Stands N V) {i : Nat} (hi : i < 12) {p : Int × Int} (hp : ledger_Post.ok p) (hv : ledger_Post.val p = V' i) (ho : ∀ j, j ≠ i → V' j = V j) : ledger_Post.Stands (N.set i p) V' := by
  refine ⟨by rw [List.length_set]; exact h.1, fun j => ?_⟩
  rw [ledger_Post.getD_set _ _ _ _ _ (by rw [h.1]; exact hi)]
  by_cases e : i = j
  · subst e; rw [if_pos rfl]; exact ⟨hp, fun _ => hv⟩
  · rw [if_neg e]; exact ⟨(h.2 j).1, fun hj => by rw [(h.2 j).2 hj, ho j (fun h => e h.symm)]⟩
theorem ledger_Post.zeros_get (i : Nat) : ledger_Post.zeros.getD i (0, 0) = (0, 0) := by
  have : ledger_Post.zeros = List.replicate 12 (0, 0) := rfl
  rw [this, List.getD_eq_getElem?_getD, List.getElem?_replicate]
  split <;> rfl
theorem ledger_Post.stands_nets (b : List Int) (hb : ∀ i, ledger_Post.in64 (b.getD i 0)) : ∀ n, n ≤ 12 → ledger_Post.Stands (ledger_Post.nets b n) (fun i => if i < n then b.getD i 0 else 0) := by
  intro n
  induction n with
  | zero => exact fun _ => ⟨rfl, fun i => by unfold ledger_Post.nets; rw [ledger_Post.zeros_get]; exact ⟨⟨by decide, by decide⟩, fun _ => rfl⟩⟩
  | succ n ih =>
    intro hn
    refine (ih (by omega)).set (i := n) (by omega) (ledger_Post.pl_ok _ _) ?_ ?_
    · rw [ledger_Post.pl_val ⟨by decide, by decide⟩ (hb n) (by unfold ledger_Post.big ledger_Post.val; omega), if_pos (by omega)]; unfold ledger_Post.val; omega
    · intro j hj
      by_cases h : j < n
      · rw [if_pos h, if_pos (by omega)]
      · rw [if_neg h, if_neg (by omega)]
theorem ledger_Post.amt_le {e : S43} (h : ledger_Post.err e = 0) (he : ledger_Post.in64 e.f2) (i : Nat) : -9223372036854775808 ≤ ledger_Post.amt i e ∧ ledger_Post.amt i e ≤ 9223372036854775808 := by
  have h2 := ledger_Post.err_zero h
  unfold ledger_Post.in64 at he
  unfold ledger_Post.amt
  split <;> split <;> omega
theorem ledger_Post.tot_take (b : List Int) (l : List S43) (n i : Nat) (h : n < l.length) : ledger_Post.tot b (l.take (n + 1)) i = ledger_Post.tot b (l.take n) i + ledger_Post.amt i l[n] := by
  unfold ledger_Post.tot
  rw [List.take_succ_eq_append_getElem h, List.map_append, List.sum_append_int]
  simp; omega
theorem ledger_Post.tot_big (b : List Int) (l : List S43) (hb : ∀ i, ledger_Post.in64 (b.getD i 0)) (hl : ∀ e ∈ l, ledger_Post.in64 e.f2) (i : Nat) : ∀ n, n ≤ l.length → (∀ e ∈ l.take n, ledger_Post.err e = 0) → -(9223372036854775808 * ((n : Int) + 1)) ≤ ledger_Post.tot b (l.take n) i ∧ ledger_Post.tot b (l.take n) i ≤ 9223372036854775808 * ((n : Int) + 1) := by
  intro n
  induction n with
  | zero =>
    intro _ _
    have := hb i
    unfold ledger_Post.in64 at this
    unfold ledger_Post.tot
    rw [List.take_zero, List.map_nil, List.sum_nil]; omega
  | succ n ih =>
    intro hn hg
    have h1 := ih (by omega) (fun e he => hg e (by rw [List.take_succ_eq_append_getElem (by omega)]; exact List.mem_append_left _ he))
    rw [ledger_Post.tot_take b l n i (by omega)]
    have h2 := ledger_Post.amt_le (hg l[n] (by rw [List.take_succ_eq_append_getElem (by omega)]; exact List.mem_append_right _ (List.mem_singleton_self _))) (hl _ (List.getElem_mem _)) i
    omega
theorem ledger_Post.run_succ (b : List Int) (l : List S43) (n : Nat) (h : n < l.length) : ledger_Post.run b l (n + 1) = ledger_Post.move2 (ledger_Post.move1 (ledger_Post.run b l n) l[n]) l[n] := by
  unfold ledger_Post.run
  rw [List.take_succ_eq_append_getElem h, List.foldl_append]
  rfl
theorem ledger_Post.stands_run (b : List Int) (l : List S43) (hb : ∀ i, ledger_Post.in64 (b.getD i 0)) (hl : ∀ e ∈ l, ledger_Post.in64 e.f2) (hm : l.length ≤ 9223372036854775807) : ∀ n, n ≤ l.length → (∀ e ∈ l.take n, ledger_Post.err e = 0) → ledger_Post.Stands (ledger_Post.run b l n) (ledger_Post.tot b (l.take n)) := by
  intro n
  induction n with
  | zero =>
    intro _ _
    have h := ledger_Post.stands_nets b hb 12 (by omega)
    refine ⟨h.1, fun i => ⟨(h.2 i).1, fun hi => ?_⟩⟩
    have h2 : ledger_Post.val ((ledger_Post.nets b 12).getD i (0, 0)) = b.getD i 0 := ((h.2 i).2 hi).trans (if_pos hi)
    have e : ledger_Post.run b l 0 = ledger_Post.nets b 12 := by unfold ledger_Post.run; rw [List.take_zero, List.foldl_nil]
    rw [e, h2, List.take_zero]; unfold ledger_Post.tot; rw [List.map_nil, List.sum_nil]; omega
  | succ n ih =>
    intro hn hg
    have hg' : ∀ e ∈ l.take n, ledger_Post.err e = 0 := fun e he => hg e (by rw [List.take_succ_eq_append_getElem (by omega)]; exact List.mem_append_left _ he)
    have h1 := ih (by omega) hg'
    have he := ledger_Post.err_zero (hg l[n] (by rw [List.take_succ_eq_append_getElem (by omega)]; exact List.mem_append_right _ (List.mem_singleton_self _)))
    have hx : ledger_Post.in64 l[n].f2 := hl _ (List.getElem_mem _)
    obtain ⟨e, hee⟩ : ∃ e, e = l[n] := ⟨_, rfl⟩
    rw [ledger_Post.run_succ b l n (by omega)]
    have bg := fun i => ledger_Post.tot_big b l hb hl i n (by omega) hg'
    have tk := fun i => ledger_Post.tot_take b l n i (by omega)
    rw [← hee] at he hx tk ⊢
    obtain ⟨A, hA⟩ : ∃ A : Nat, e.f0 = A := Int.eq_ofNat_of_zero_le he.1.1
    obtain ⟨B, hB⟩ : ∃ B : Nat, e.f1 = B := Int.eq_ofNat_of_zero_le he.2.1.1
    have hA1 : A < 12 := by omega
    have hB1 : B < 12 := by omega
    have hAB : A ≠ B := by omega
    unfold ledger_Post.in64 at hx
    unfold ledger_Post.move2 ledger_Post.move1
    rw [show e.f0.toNat = A by omega, show e.f1.toNat = B by omega]
    have s1 : ledger_Post.Stands ((ledger_Post.run b l n).set A (ledger_Post.pl ((ledger_Post.run b l n).getD A (0, 0)) e.f2)) (fun j => if j = A then ledger_Post.tot b (l.take n) j + e.f2 else ledger_Post.tot b (l.take n) j) := by
      refine h1.set hA1 (ledger_Post.pl_ok _ _) ?_ (fun j hj => if_neg hj)
      have b1 := bg A
      rw [ledger_Post.pl_val (h1.2 A).1 ⟨by omega, by omega⟩ (by rw [(h1.2 A).2 hA1]; unfold ledger_Post.big; omega), (h1.2 A).2 hA1, if_pos rfl]
    refine s1.set hB1 (ledger_Post.mi_ok _ _) ?_ (fun j hj => ?_)
    · have b1 := bg B
      have v := (s1.2 B).2 hB1
      dsimp only at v
      rw [if_neg (fun h => hAB h.symm)] at v
      rw [ledger_Post.mi_val (s1.2 B).1 ⟨by omega, by omega⟩ (by rw [v]; unfold ledger_Post.big; omega), v, tk B]
      unfold ledger_Post.amt
      rw [if_neg (by omega), if_pos (by omega)]; omega
    · rw [tk j]
      unfold ledger_Post.amt
      rw [if_neg (show ¬ e.f1 = (j : Int) by omega)]
      by_cases h : j = A
      · rw [if_pos h, if_pos (by omega)]; omega
      · rw [if_neg h, if_neg (by omega)]; omega
theorem ledger_Post.bad_of {l : List S43} {n : Nat} (h : n < l.length) (hg : ∀ e ∈ l.take n, ledger_Post.err e = 0) (he : ledger_Post.err l[n] ≠ 0) : ledger_Post.bad l = ledger_Post.err l[n] := by
  induction l generalizing n with
  | nil => simp at h
  | cons x l ih =>
    cases n with
    | zero => unfold ledger_Post.bad; exact if_neg he
    | succ n =>
      unfold ledger_Post.bad
      rw [if_pos (hg x (by simp))]
      exact ih (by simpa using h) (fun e h2 => hg e (by simp [h2])) he
theorem ledger_Post.bad_none : ∀ {l : List S43}, (∀ e ∈ l, ledger_Post.err e = 0) → ledger_Post.bad l = 0
  | [], _ => rfl
  | e :: l, h => by
    unfold ledger_Post.bad
    rw [if_pos (h e (by simp))]
    exact ledger_Post.bad_none (fun x hx => h x (by simp [hx]))
theorem ledger_Post.bad_zero : ∀ {l : List S43}, ledger_Post.bad l = 0 → ∀ e ∈ l, ledger_Post.err e = 0
  | [], _, e, he => by simp at he
  | x :: l, h, e, he => by
    unfold ledger_Post.bad at h
    split at h
    · rename_i hx
      rcases List.mem_cons.1 he with rfl | he
      · exact hx
      · exact ledger_Post.bad_zero h e he
    · rename_i hx; exact absurd h hx
/-- What the first n places of the answer are. -/
def ledger_Post.outs (N : List (Int × Int)) : Nat → List Int
  | 0 => [0, 0, 0, 0, 0, 0, 0, 0, 0, 0, 0, 0]
  | n + 1 => (ledger_Post.outs N n).set n (wrap64 (N.getD n (0, 0)).2)
theorem ledger_Post.outs_len (N : List (Int × Int)) : ∀ n, (ledger_Post.outs N n).length = 12
  | 0 => rfl
  | n + 1 => by unfold ledger_Post.outs; rw [List.length_set]; exact ledger_Post.outs_len N n
theorem ledger_Post.outs_get (N : List (Int × Int)) : ∀ n i, n ≤ 12 → i < n → (ledger_Post.outs N n).getD i 0 = wrap64 (N.getD i (0, 0)).2
  | 0, _, _, h => by omega
  | n + 1, i, hn, h => by
    unfold ledger_Post.outs
    rw [ledger_Post.getD_set _ _ _ _ _ (by rw [ledger_Post.outs_len]; omega)]
    by_cases e : n = i
    · rw [if_pos e, e]
    · rw [if_neg e]; exact ledger_Post.outs_get N n i (by omega) (by omega)
theorem ledger_Post.outs_all (N : List (Int × Int)) : ledger_Post.outs N 12 = (List.range 12).map (fun i => wrap64 (N.getD i (0, 0)).2) := by
  apply List.ext_getElem
  · rw [ledger_Post.outs_len]; simp
  · intro i h1 h2
    have h3 := ledger_Post.outs_get N 12 i (by omega) (by rw [ledger_Post.outs_len] at h1; exact h1)
    rw [List.getD_eq_getElem?_getD, List.getElem?_eq_getElem h1] at h3
    simp only [Option.getD_some] at h3
    rw [h3]; simp
/-- The four ends. -/
theorem ledger_Post.end_bad {b : List Int} {l : List S43} {n : Nat} (h : n < l.length) (hg : ∀ e ∈ l.take n, ledger_Post.err e = 0) (he : ledger_Post.err l[n] ≠ 0) : ledger_Post.spec b l = (b, ledger_Post.err l[n]) := by
  unfold ledger_Post.spec; rw [ledger_Post.bad_of h hg he, if_neg he]
theorem ledger_Post.end_range {b : List Int} {l : List S43} (hb : ∀ i, ledger_Post.in64 (b.getD i 0)) (hl : ∀ e ∈ l, ledger_Post.in64 e.f2) (hm : l.length ≤ 9223372036854775807) (hg : ∀ e ∈ l, ledger_Post.err e = 0) {i : Nat} (hi : i < 12) (hf : ledger_Post.fits ((ledger_Post.run b l l.length).getD i (0, 0)) = false) : ledger_Post.spec b l = (b, 3) := by
  have hs := ledger_Post.stands_run b l hb hl hm l.length (Nat.le_refl _) (by rwa [List.take_length])
  rw [List.take_length] at hs
  unfold ledger_Post.spec
  rw [if_pos (ledger_Post.bad_none hg), if_neg]
  intro h
  have h2 := List.all_eq_true.1 h i (List.mem_range.2 hi)
  unfold ledger_Post.inr at h2
  rw [Bool.and_eq_true, decide_eq_true_eq, decide_eq_true_eq, ← (hs.2 i).2 hi, ← ledger_Post.fits_iff (hs.2 i).1, hf] at h2
  cases h2
theorem ledger_Post.fit_vals {b : List Int} {l : List S43} (hb : ∀ i, ledger_Post.in64 (b.getD i 0)) (hl : ∀ e ∈ l, ledger_Post.in64 e.f2) (hm : l.length ≤ 9223372036854775807) (hg : ∀ e ∈ l, ledger_Post.err e = 0) (hf : ∀ i, i < 12 → ledger_Post.fits ((ledger_Post.run b l l.length).getD i (0, 0)) = true) :
    (List.range 12).all (fun i => ledger_Post.inr (ledger_Post.tot b l i)) = true ∧ ledger_Post.outs (ledger_Post.run b l l.length) 12 = (List.range 12).map (ledger_Post.tot b l) := by
  have hs := ledger_Post.stands_run b l hb hl hm l.length (Nat.le_refl _) (by rwa [List.take_length])
  rw [List.take_length] at hs
  constructor
  · rw [List.all_eq_true]
    intro i hi
    have hi := List.mem_range.1 hi
    unfold ledger_Post.inr
    rw [Bool.and_eq_true, decide_eq_true_eq, decide_eq_true_eq, ← (hs.2 i).2 hi, ← ledger_Post.fits_iff (hs.2 i).1]
    exact hf i hi
  · rw [ledger_Post.outs_all]
    apply List.map_congr_left
    intro i hi
    have hi := List.mem_range.1 hi
    rw [ledger_Post.fits_val (hs.2 i).1 (hf i hi), (hs.2 i).2 hi]
theorem ledger_Post.end_side {b : List Int} {l : List S43} (hb : ∀ i, ledger_Post.in64 (b.getD i 0)) (hl : ∀ e ∈ l, ledger_Post.in64 e.f2) (hm : l.length ≤ 9223372036854775807) (hg : ∀ e ∈ l, ledger_Post.err e = 0) (hf : ∀ i, i < 12 → ledger_Post.fits ((ledger_Post.run b l l.length).getD i (0, 0)) = true) {i : Nat} (hi : i < 12) (hw : ledger_Post.wrong i ((ledger_Post.outs (ledger_Post.run b l l.length) 12).getD i 0) = true) : ledger_Post.spec b l = (b, 81) := by
  obtain ⟨h1, h2⟩ := ledger_Post.fit_vals hb hl hm hg hf
  unfold ledger_Post.spec
  rw [if_pos (ledger_Post.bad_none hg), if_pos h1, if_neg]
  intro h
  have h3 := List.all_eq_true.1 h i (List.mem_range.2 hi)
  rw [h2, List.getD_eq_getElem?_getD, List.getElem?_map, List.getElem?_range hi] at hw
  simp only [Option.map_some, Option.getD_some] at hw
  rw [hw] at h3; cases h3
theorem ledger_Post.end_good {b : List Int} {l : List S43} (hb : ∀ i, ledger_Post.in64 (b.getD i 0)) (hl : ∀ e ∈ l, ledger_Post.in64 e.f2) (hm : l.length ≤ 9223372036854775807) (hg : ∀ e ∈ l, ledger_Post.err e = 0) (hf : ∀ i, i < 12 → ledger_Post.fits ((ledger_Post.run b l l.length).getD i (0, 0)) = true) (hw : ∀ i, i < 12 → ledger_Post.wrong i ((ledger_Post.outs (ledger_Post.run b l l.length) 12).getD i 0) = false) : ledger_Post.spec b l = (ledger_Post.outs (ledger_Post.run b l l.length) 12, 0) := by
  obtain ⟨h1, h2⟩ := ledger_Post.fit_vals hb hl hm hg hf
  unfold ledger_Post.spec
  rw [if_pos (ledger_Post.bad_none hg), if_pos h1, if_pos, h2]
  rw [List.all_eq_true]
  intro i hi
  have hi := List.mem_range.1 hi
  have h3 := hw i hi
  rw [h2, List.getD_eq_getElem?_getD, List.getElem?_map, List.getElem?_range hi] at h3
  simp only [Option.map_some, Option.getD_some] at h3
  rw [h3]; rfl
def ledger_Post.f (a0_0 : Int) (a0_1 : Int) (a0_2 : Int) (a0_3 : Int) (a0_4 : Int) (a0_5 : Int) (a0_6 : Int) (a0_7 : Int) (a0_8 : Int) (a0_9 : Int) (a0_10 : Int) (a0_11 : Int) (l0 : List S43) : Option (Int × Int × Int × Int × Int × Int × Int × Int × Int × Int × Int × Int × Int) :=
  if (∀ e ∈ l0, ledger_Post.in64 e.f2) ∧ (∀ x ∈ ([a0_0, a0_1, a0_2, a0_3, a0_4, a0_5, a0_6, a0_7, a0_8, a0_9, a0_10, a0_11] : List Int), ledger_Post.in64 x) then
    let r := ledger_Post.spec [a0_0, a0_1, a0_2, a0_3, a0_4, a0_5, a0_6, a0_7, a0_8, a0_9, a0_10, a0_11] l0
    some (r.1.getD 0 0, r.1.getD 1 0, r.1.getD 2 0, r.1.getD 3 0, r.1.getD 4 0, r.1.getD 5 0, r.1.getD 6 0, r.1.getD 7 0, r.1.getD 8 0, r.1.getD 9 0, r.1.getD 10 0, r.1.getD 11 0, r.2)
  else none
/-- The cells of a row of wide numbers. -/
def ledger_Post.rowN (N : List (Int × Int)) : Array Value := (N.flatMap (fun p => [Value.int .i64 p.1, Value.int .u64 p.2])).toArray
theorem ledger_Post.rowN_get (N : List (Int × Int)) (i : Nat) (h : i < N.length) : (ledger_Post.rowN N)[i * 2]? = some (.int .i64 (N.getD i (0, 0)).1) ∧ (ledger_Post.rowN N)[i * 2 + 1]? = some (.int .u64 (N.getD i (0, 0)).2) := by
  unfold ledger_Post.rowN
  simp only [List.getElem?_toArray]
  induction N generalizing i with
  | nil => simp at h
  | cons p N ih =>
    cases i with
    | zero => exact ⟨rfl, rfl⟩
    | succ i =>
      have h2 := ih i (by simpa using h)
      simp only [List.flatMap_cons, List.cons_append, List.nil_append]
      rw [show (i + 1) * 2 = i * 2 + 1 + 1 by omega]
      simp only [List.getElem?_cons_succ, List.getD_cons_succ]
      exact h2
theorem ledger_Post.rowN_set (N : List (Int × Int)) (i : Nat) (p : Int × Int) (h : i < N.length) : ((ledger_Post.rowN N).setIfInBounds (i * 2) (.int .i64 p.1)).setIfInBounds (i * 2 + 1) (.int .u64 p.2) = ledger_Post.rowN (N.set i p) := by
  unfold ledger_Post.rowN
  simp only [List.setIfInBounds_toArray]
  congr 1
  induction N generalizing i with
  | nil => simp at h
  | cons q N ih =>
    cases i with
    | zero => rfl
    | succ i =>
      have h2 := ih i (by simpa using h)
      simp only [List.flatMap_cons, List.cons_append, List.nil_append, List.set_cons_succ]
      rw [show (i + 1) * 2 = i * 2 + 1 + 1 by omega]
      simp only [List.set_cons_succ]
      rw [h2]
theorem ledger_Post.twelve {i : Nat} (h : i < 12) : i = 0 ∨ i = 1 ∨ i = 2 ∨ i = 3 ∨ i = 4 ∨ i = 5 ∨ i = 6 ∨ i = 7 ∨ i = 8 ∨ i = 9 ∨ i = 10 ∨ i = 11 := by omega
theorem ledger_Post.cells (w : World) (hL : Laid w) (o : Nat) (h1 : o < 12) : w.cell? ⟨0, o, none⟩ = some (.int .i64 (ledger_Post.side o)) := by
  apply hL.at0
  rcases ledger_Post.twelve h1 with rfl | rfl | rfl | rfl | rfl | rfl | rfl | rfl | rfl | rfl | rfl | rfl <;> rfl
def ledger_Post.rowI (N : List Int) : Array Value := (N.map (fun p => Value.int .i64 p)).toArray
theorem ledger_Post.rowI_get (N : List Int) (i : Nat) (h : i < N.length) : (ledger_Post.rowI N)[i]? = some (.int .i64 (N.getD i 0)) := by
  unfold ledger_Post.rowI
  simp [List.getElem?_map, List.getElem?_eq_getElem h]
theorem ledger_Post.rowI_set (N : List Int) (i : Nat) (p : Int) : (ledger_Post.rowI N).setIfInBounds i (.int .i64 p) = ledger_Post.rowI (N.set i p) := by
  unfold ledger_Post.rowI
  simp [List.map_set]
theorem ledger_Post.idx12 (a0_0 : Int) (a0_1 : Int) (a0_2 : Int) (a0_3 : Int) (a0_4 : Int) (a0_5 : Int) (a0_6 : Int) (a0_7 : Int) (a0_8 : Int) (a0_9 : Int) (a0_10 : Int) (a0_11 : Int) (n : Nat) (h : n < 12) : ∀ W : World, (Instr.index 22 (.agg #[.int .i64 a0_0, .int .i64 a0_1, .int .i64 a0_2, .int .i64 a0_3, .int .i64 a0_4, .int .i64 a0_5, .int .i64 a0_6, .int .i64 a0_7, .int .i64 a0_8, .int .i64 a0_9, .int .i64 a0_10, .int .i64 a0_11]) (.int .i64 (n : Int))).run Tryd.prog W = .ok (.int .i64 (([a0_0, a0_1, a0_2, a0_3, a0_4, a0_5, a0_6, a0_7, a0_8, a0_9, a0_10, a0_11] : List Int).getD n 0)) W := by
  intro W
  rcases ledger_Post.twelve h with rfl | rfl | rfl | rfl | rfl | rfl | rfl | rfl | rfl | rfl | rfl | rfl
  · exact (by kernel_rfl : (Instr.index 22 (.agg #[.int .i64 a0_0, .int .i64 a0_1, .int .i64 a0_2, .int .i64 a0_3, .int .i64 a0_4, .int .i64 a0_5, .int .i64 a0_6, .int .i64 a0_7, .int .i64 a0_8, .int .i64 a0_9, .int .i64 a0_10, .int .i64 a0_11]) (.int .i64 0)).run Tryd.prog W = .ok (.int .i64 a0_0) W)
  · exact (by kernel_rfl : (Instr.index 22 (.agg #[.int .i64 a0_0, .int .i64 a0_1, .int .i64 a0_2, .int .i64 a0_3, .int .i64 a0_4, .int .i64 a0_5, .int .i64 a0_6, .int .i64 a0_7, .int .i64 a0_8, .int .i64 a0_9, .int .i64 a0_10, .int .i64 a0_11]) (.int .i64 1)).run Tryd.prog W = .ok (.int .i64 a0_1) W)
  · exact (by kernel_rfl : (Instr.index 22 (.agg #[.int .i64 a0_0, .int .i64 a0_1, .int .i64 a0_2, .int .i64 a0_3, .int .i64 a0_4, .int .i64 a0_5, .int .i64 a0_6, .int .i64 a0_7, .int .i64 a0_8, .int .i64 a0_9, .int .i64 a0_10, .int .i64 a0_11]) (.int .i64 2)).run Tryd.prog W = .ok (.int .i64 a0_2) W)
  · exact (by kernel_rfl : (Instr.index 22 (.agg #[.int .i64 a0_0, .int .i64 a0_1, .int .i64 a0_2, .int .i64 a0_3, .int .i64 a0_4, .int .i64 a0_5, .int .i64 a0_6, .int .i64 a0_7, .int .i64 a0_8, .int .i64 a0_9, .int .i64 a0_10, .int .i64 a0_11]) (.int .i64 3)).run Tryd.prog W = .ok (.int .i64 a0_3) W)
  · exact (by kernel_rfl : (Instr.index 22 (.agg #[.int .i64 a0_0, .int .i64 a0_1, .int .i64 a0_2, .int .i64 a0_3, .int .i64 a0_4, .int .i64 a0_5, .int .i64 a0_6, .int .i64 a0_7, .int .i64 a0_8, .int .i64 a0_9, .int .i64 a0_10, .int .i64 a0_11]) (.int .i64 4)).run Tryd.prog W = .ok (.int .i64 a0_4) W)
  · exact (by kernel_rfl : (Instr.index 22 (.agg #[.int .i64 a0_0, .int .i64 a0_1, .int .i64 a0_2, .int .i64 a0_3, .int .i64 a0_4, .int .i64 a0_5, .int .i64 a0_6, .int .i64 a0_7, .int .i64 a0_8, .int .i64 a0_9, .int .i64 a0_10, .int .i64 a0_11]) (.int .i64 5)).run Tryd.prog W = .ok (.int .i64 a0_5) W)
  · exact (by kernel_rfl : (Instr.index 22 (.agg #[.int .i64 a0_0, .int .i64 a0_1, .int .i64 a0_2, .int .i64 a0_3, .int .i64 a0_4, .int .i64 a0_5, .int .i64 a0_6, .int .i64 a0_7, .int .i64 a0_8, .int .i64 a0_9, .int .i64 a0_10, .int .i64 a0_11]) (.int .i64 6)).run Tryd.prog W = .ok (.int .i64 a0_6) W)
  · exact (by kernel_rfl : (Instr.index 22 (.agg #[.int .i64 a0_0, .int .i64 a0_1, .int .i64 a0_2, .int .i64 a0_3, .int .i64 a0_4, .int .i64 a0_5, .int .i64 a0_6, .int .i64 a0_7, .int .i64 a0_8, .int .i64 a0_9, .int .i64 a0_10, .int .i64 a0_11]) (.int .i64 7)).run Tryd.prog W = .ok (.int .i64 a0_7) W)
  · exact (by kernel_rfl : (Instr.index 22 (.agg #[.int .i64 a0_0, .int .i64 a0_1, .int .i64 a0_2, .int .i64 a0_3, .int .i64 a0_4, .int .i64 a0_5, .int .i64 a0_6, .int .i64 a0_7, .int .i64 a0_8, .int .i64 a0_9, .int .i64 a0_10, .int .i64 a0_11]) (.int .i64 8)).run Tryd.prog W = .ok (.int .i64 a0_8) W)
  · exact (by kernel_rfl : (Instr.index 22 (.agg #[.int .i64 a0_0, .int .i64 a0_1, .int .i64 a0_2, .int .i64 a0_3, .int .i64 a0_4, .int .i64 a0_5, .int .i64 a0_6, .int .i64 a0_7, .int .i64 a0_8, .int .i64 a0_9, .int .i64 a0_10, .int .i64 a0_11]) (.int .i64 9)).run Tryd.prog W = .ok (.int .i64 a0_9) W)
  · exact (by kernel_rfl : (Instr.index 22 (.agg #[.int .i64 a0_0, .int .i64 a0_1, .int .i64 a0_2, .int .i64 a0_3, .int .i64 a0_4, .int .i64 a0_5, .int .i64 a0_6, .int .i64 a0_7, .int .i64 a0_8, .int .i64 a0_9, .int .i64 a0_10, .int .i64 a0_11]) (.int .i64 10)).run Tryd.prog W = .ok (.int .i64 a0_10) W)
  · exact (by kernel_rfl : (Instr.index 22 (.agg #[.int .i64 a0_0, .int .i64 a0_1, .int .i64 a0_2, .int .i64 a0_3, .int .i64 a0_4, .int .i64 a0_5, .int .i64 a0_6, .int .i64 a0_7, .int .i64 a0_8, .int .i64 a0_9, .int .i64 a0_10, .int .i64 a0_11]) (.int .i64 11)).run Tryd.prog W = .ok (.int .i64 a0_11) W)
theorem ledger_Post.idxN (h0 l0 : Int) (h1 l1 : Int) (h2 l2 : Int) (h3 l3 : Int) (h4 l4 : Int) (h5 l5 : Int) (h6 l6 : Int) (h7 l7 : Int) (h8 l8 : Int) (h9 l9 : Int) (h10 l10 : Int) (h11 l11 : Int) (n : Nat) (h : n < 12) : ∀ W : World, (Instr.index 68 (.agg #[.int .i64 h0, .int .u64 l0, .int .i64 h1, .int .u64 l1, .int .i64 h2, .int .u64 l2, .int .i64 h3, .int .u64 l3, .int .i64 h4, .int .u64 l4, .int .i64 h5, .int .u64 l5, .int .i64 h6, .int .u64 l6, .int .i64 h7, .int .u64 l7, .int .i64 h8, .int .u64 l8, .int .i64 h9, .int .u64 l9, .int .i64 h10, .int .u64 l10, .int .i64 h11, .int .u64 l11]) (.int .i64 (n : Int))).run Tryd.prog W = .ok (.agg #[.int .i64 (([(h0, l0), (h1, l1), (h2, l2), (h3, l3), (h4, l4), (h5, l5), (h6, l6), (h7, l7), (h8, l8), (h9, l9), (h10, l10), (h11, l11)] : List (Int × Int)).getD n (0, 0)).1, .int .u64 (([(h0, l0), (h1, l1), (h2, l2), (h3, l3), (h4, l4), (h5, l5), (h6, l6), (h7, l7), (h8, l8), (h9, l9), (h10, l10), (h11, l11)] : List (Int × Int)).getD n (0, 0)).2]) W := by
  intro W
  rcases ledger_Post.twelve h with rfl | rfl | rfl | rfl | rfl | rfl | rfl | rfl | rfl | rfl | rfl | rfl
  · exact (by kernel_rfl : (Instr.index 68 (.agg #[.int .i64 h0, .int .u64 l0, .int .i64 h1, .int .u64 l1, .int .i64 h2, .int .u64 l2, .int .i64 h3, .int .u64 l3, .int .i64 h4, .int .u64 l4, .int .i64 h5, .int .u64 l5, .int .i64 h6, .int .u64 l6, .int .i64 h7, .int .u64 l7, .int .i64 h8, .int .u64 l8, .int .i64 h9, .int .u64 l9, .int .i64 h10, .int .u64 l10, .int .i64 h11, .int .u64 l11]) (.int .i64 0)).run Tryd.prog W = .ok (.agg #[.int .i64 h0, .int .u64 l0]) W)
  · exact (by kernel_rfl : (Instr.index 68 (.agg #[.int .i64 h0, .int .u64 l0, .int .i64 h1, .int .u64 l1, .int .i64 h2, .int .u64 l2, .int .i64 h3, .int .u64 l3, .int .i64 h4, .int .u64 l4, .int .i64 h5, .int .u64 l5, .int .i64 h6, .int .u64 l6, .int .i64 h7, .int .u64 l7, .int .i64 h8, .int .u64 l8, .int .i64 h9, .int .u64 l9, .int .i64 h10, .int .u64 l10, .int .i64 h11, .int .u64 l11]) (.int .i64 1)).run Tryd.prog W = .ok (.agg #[.int .i64 h1, .int .u64 l1]) W)
  · exact (by kernel_rfl : (Instr.index 68 (.agg #[.int .i64 h0, .int .u64 l0, .int .i64 h1, .int .u64 l1, .int .i64 h2, .int .u64 l2, .int .i64 h3, .int .u64 l3, .int .i64 h4, .int .u64 l4, .int .i64 h5, .int .u64 l5, .int .i64 h6, .int .u64 l6, .int .i64 h7, .int .u64 l7, .int .i64 h8, .int .u64 l8, .int .i64 h9, .int .u64 l9, .int .i64 h10, .int .u64 l10, .int .i64 h11, .int .u64 l11]) (.int .i64 2)).run Tryd.prog W = .ok (.agg #[.int .i64 h2, .int .u64 l2]) W)
  · exact (by kernel_rfl : (Instr.index 68 (.agg #[.int .i64 h0, .int .u64 l0, .int .i64 h1, .int .u64 l1, .int .i64 h2, .int .u64 l2, .int .i64 h3, .int .u64 l3, .int .i64 h4, .int .u64 l4, .int .i64 h5, .int .u64 l5, .int .i64 h6, .int .u64 l6, .int .i64 h7, .int .u64 l7, .int .i64 h8, .int .u64 l8, .int .i64 h9, .int .u64 l9, .int .i64 h10, .int .u64 l10, .int .i64 h11, .int .u64 l11]) (.int .i64 3)).run Tryd.prog W = .ok (.agg #[.int .i64 h3, .int .u64 l3]) W)
  · exact (by kernel_rfl : (Instr.index 68 (.agg #[.int .i64 h0, .int .u64 l0, .int .i64 h1, .int .u64 l1, .int .i64 h2, .int .u64 l2, .int .i64 h3, .int .u64 l3, .int .i64 h4, .int .u64 l4, .int .i64 h5, .int .u64 l5, .int .i64 h6, .int .u64 l6, .int .i64 h7, .int .u64 l7, .int .i64 h8, .int .u64 l8, .int .i64 h9, .int .u64 l9, .int .i64 h10, .int .u64 l10, .int .i64 h11, .int .u64 l11]) (.int .i64 4)).run Tryd.prog W = .ok (.agg #[.int .i64 h4, .int .u64 l4]) W)
  · exact (by kernel_rfl : (Instr.index 68 (.agg #[.int .i64 h0, .int .u64 l0, .int .i64 h1, .int .u64 l1, .int .i64 h2, .int .u64 l2, .int .i64 h3, .int .u64 l3, .int .i64 h4, .int .u64 l4, .int .i64 h5, .int .u64 l5, .int .i64 h6, .int .u64 l6, .int .i64 h7, .int .u64 l7, .int .i64 h8, .int .u64 l8, .int .i64 h9, .int .u64 l9, .int .i64 h10, .int .u64 l10, .int .i64 h11, .int .u64 l11]) (.int .i64 5)).run Tryd.prog W = .ok (.agg #[.int .i64 h5, .int .u64 l5]) W)
  · exact (by kernel_rfl : (Instr.index 68 (.agg #[.int .i64 h0, .int .u64 l0, .int .i64 h1, .int .u64 l1, .int .i64 h2, .int .u64 l2, .int .i64 h3, .int .u64 l3, .int .i64 h4, .int .u64 l4, .int .i64 h5, .int .u64 l5, .int .i64 h6, .int .u64 l6, .int .i64 h7, .int .u64 l7, .int .i64 h8, .int .u64 l8, .int .i64 h9, .int .u64 l9, .int .i64 h10, .int .u64 l10, .int .i64 h11, .int .u64 l11]) (.int .i64 6)).run Tryd.prog W = .ok (.agg #[.int .i64 h6, .int .u64 l6]) W)
  · exact (by kernel_rfl : (Instr.index 68 (.agg #[.int .i64 h0, .int .u64 l0, .int .i64 h1, .int .u64 l1, .int .i64 h2, .int .u64 l2, .int .i64 h3, .int .u64 l3, .int .i64 h4, .int .u64 l4, .int .i64 h5, .int .u64 l5, .int .i64 h6, .int .u64 l6, .int .i64 h7, .int .u64 l7, .int .i64 h8, .int .u64 l8, .int .i64 h9, .int .u64 l9, .int .i64 h10, .int .u64 l10, .int .i64 h11, .int .u64 l11]) (.int .i64 7)).run Tryd.prog W = .ok (.agg #[.int .i64 h7, .int .u64 l7]) W)
  · exact (by kernel_rfl : (Instr.index 68 (.agg #[.int .i64 h0, .int .u64 l0, .int .i64 h1, .int .u64 l1, .int .i64 h2, .int .u64 l2, .int .i64 h3, .int .u64 l3, .int .i64 h4, .int .u64 l4, .int .i64 h5, .int .u64 l5, .int .i64 h6, .int .u64 l6, .int .i64 h7, .int .u64 l7, .int .i64 h8, .int .u64 l8, .int .i64 h9, .int .u64 l9, .int .i64 h10, .int .u64 l10, .int .i64 h11, .int .u64 l11]) (.int .i64 8)).run Tryd.prog W = .ok (.agg #[.int .i64 h8, .int .u64 l8]) W)
  · exact (by kernel_rfl : (Instr.index 68 (.agg #[.int .i64 h0, .int .u64 l0, .int .i64 h1, .int .u64 l1, .int .i64 h2, .int .u64 l2, .int .i64 h3, .int .u64 l3, .int .i64 h4, .int .u64 l4, .int .i64 h5, .int .u64 l5, .int .i64 h6, .int .u64 l6, .int .i64 h7, .int .u64 l7, .int .i64 h8, .int .u64 l8, .int .i64 h9, .int .u64 l9, .int .i64 h10, .int .u64 l10, .int .i64 h11, .int .u64 l11]) (.int .i64 9)).run Tryd.prog W = .ok (.agg #[.int .i64 h9, .int .u64 l9]) W)
  · exact (by kernel_rfl : (Instr.index 68 (.agg #[.int .i64 h0, .int .u64 l0, .int .i64 h1, .int .u64 l1, .int .i64 h2, .int .u64 l2, .int .i64 h3, .int .u64 l3, .int .i64 h4, .int .u64 l4, .int .i64 h5, .int .u64 l5, .int .i64 h6, .int .u64 l6, .int .i64 h7, .int .u64 l7, .int .i64 h8, .int .u64 l8, .int .i64 h9, .int .u64 l9, .int .i64 h10, .int .u64 l10, .int .i64 h11, .int .u64 l11]) (.int .i64 10)).run Tryd.prog W = .ok (.agg #[.int .i64 h10, .int .u64 l10]) W)
  · exact (by kernel_rfl : (Instr.index 68 (.agg #[.int .i64 h0, .int .u64 l0, .int .i64 h1, .int .u64 l1, .int .i64 h2, .int .u64 l2, .int .i64 h3, .int .u64 l3, .int .i64 h4, .int .u64 l4, .int .i64 h5, .int .u64 l5, .int .i64 h6, .int .u64 l6, .int .i64 h7, .int .u64 l7, .int .i64 h8, .int .u64 l8, .int .i64 h9, .int .u64 l9, .int .i64 h10, .int .u64 l10, .int .i64 h11, .int .u64 l11]) (.int .i64 11)).run Tryd.prog W = .ok (.agg #[.int .i64 h11, .int .u64 l11]) W)
theorem ledger_Post.split12 {α : Type} {N : List α} (h : N.length = 12) : ∃ x0 x1 x2 x3 x4 x5 x6 x7 x8 x9 x10 x11, N = [x0, x1, x2, x3, x4, x5, x6, x7, x8, x9, x10, x11] := by
  obtain ⟨x0, N, rfl⟩ := List.exists_cons_of_length_eq_add_one h
  obtain ⟨x1, N, rfl⟩ := List.exists_cons_of_length_eq_add_one (by simpa using h : N.length = 11)
  obtain ⟨x2, N, rfl⟩ := List.exists_cons_of_length_eq_add_one (by simpa using h : N.length = 10)
  obtain ⟨x3, N, rfl⟩ := List.exists_cons_of_length_eq_add_one (by simpa using h : N.length = 9)
  obtain ⟨x4, N, rfl⟩ := List.exists_cons_of_length_eq_add_one (by simpa using h : N.length = 8)
  obtain ⟨x5, N, rfl⟩ := List.exists_cons_of_length_eq_add_one (by simpa using h : N.length = 7)
  obtain ⟨x6, N, rfl⟩ := List.exists_cons_of_length_eq_add_one (by simpa using h : N.length = 6)
  obtain ⟨x7, N, rfl⟩ := List.exists_cons_of_length_eq_add_one (by simpa using h : N.length = 5)
  obtain ⟨x8, N, rfl⟩ := List.exists_cons_of_length_eq_add_one (by simpa using h : N.length = 4)
  obtain ⟨x9, N, rfl⟩ := List.exists_cons_of_length_eq_add_one (by simpa using h : N.length = 3)
  obtain ⟨x10, N, rfl⟩ := List.exists_cons_of_length_eq_add_one (by simpa using h : N.length = 2)
  obtain ⟨x11, N, rfl⟩ := List.exists_cons_of_length_eq_add_one (by simpa using h : N.length = 1)
  have : N = [] := List.eq_nil_of_length_eq_zero (by simpa using h)
  subst this
  exact ⟨x0, x1, x2, x3, x4, x5, x6, x7, x8, x9, x10, x11, rfl⟩
theorem ledger_Post.bad_f (e : S43) : ledger_bad.f 1 e.f0 e.f1 e.f2 = some (ledger_Post.err e) := by
  have hj : ∀ x a b c, ledger_bad.j0 1 x a b c = if x = true then some 80 else if c < 1 then some 4 else some 0 := fun _ _ _ _ => rfl
  unfold ledger_bad.f ledger_Post.err
  by_cases h0 : e.f0 < 0
  · rw [if_pos h0, hj, if_pos rfl, if_pos (.inl h0)]
  · rw [if_neg h0]
    by_cases h1 : e.f0 ≥ 12
    · rw [if_pos h1, hj, if_pos rfl, if_pos (.inr (.inl h1))]
    · rw [if_neg h1]
      by_cases h2 : e.f1 < 0
      · rw [if_pos h2, hj, if_pos rfl, if_pos (.inr (.inr (.inl h2)))]
      · rw [if_neg h2]
        by_cases h3 : e.f1 ≥ 12
        · rw [if_pos h3, hj, if_pos rfl, if_pos (.inr (.inr (.inr (.inl h3))))]
        · rw [if_neg h3, hj]
          by_cases h4 : e.f0 = e.f1
          · rw [if_pos (beq_iff_eq.2 h4), if_pos (.inr (.inr (.inr (.inr h4))))]
          · rw [if_neg (show ¬ (e.f0 == e.f1) = true from fun h => h4 (beq_iff_eq.1 h)), if_neg (show ¬ (e.f0 < 0 ∨ 12 ≤ e.f0 ∨ e.f1 < 0 ∨ 12 ≤ e.f1 ∨ e.f0 = e.f1) by omega)]
            by_cases h5 : e.f2 < 1
            · rw [if_pos h5, if_pos h5]
            · rw [if_neg h5, if_neg h5]
theorem ledger_Post.idxR (N : List (Int × Int)) (hN : N.length = 12) (n : Nat) (h : n < 12) : ∀ W : World, (Instr.index 68 (.agg (ledger_Post.rowN N)) (.int .i64 (n : Int))).run Tryd.prog W = .ok (.agg #[.int .i64 (N.getD n (0, 0)).1, .int .u64 (N.getD n (0, 0)).2]) W := by
  obtain ⟨x0, x1, x2, x3, x4, x5, x6, x7, x8, x9, x10, x11, rfl⟩ := ledger_Post.split12 hN
  exact ledger_Post.idxN x0.1 x0.2 x1.1 x1.2 x2.1 x2.2 x3.1 x3.2 x4.1 x4.2 x5.1 x5.2 x6.1 x6.2 x7.1 x7.2 x8.1 x8.2 x9.1 x9.2 x10.1 x10.2 x11.1 x11.2 n h
theorem ledger_Post.pl_f {p : Int × Int} (h : ledger_Post.ok p) (x : Int) : ledger_wide_plus.f p.1 p.2 x = some ((ledger_Post.pl p x).1, (ledger_Post.pl p x).2) := by
  unfold ledger_wide_plus.f; rw [if_pos (show 0 ≤ p.2 ∧ p.2 ≤ 18446744073709551615 from h)]; rfl
theorem ledger_Post.mi_f {p : Int × Int} (h : ledger_Post.ok p) (x : Int) : ledger_wide_minus.f p.1 p.2 x = some ((ledger_Post.mi p x).1, (ledger_Post.mi p x).2) := by
  unfold ledger_wide_minus.f; rw [if_pos (show 0 ≤ p.2 ∧ p.2 ≤ 18446744073709551615 from h)]; rfl
theorem ledger_Post.rowN_size {N : List (Int × Int)} (h : N.length = 12) : (ledger_Post.rowN N).size = 24 := by
  obtain ⟨x0, x1, x2, x3, x4, x5, x6, x7, x8, x9, x10, x11, rfl⟩ := ledger_Post.split12 h
  rfl
theorem ledger_Post.nets_len (b : List Int) : ∀ n, (ledger_Post.nets b n).length = 12
  | 0 => rfl
  | n + 1 => by unfold ledger_Post.nets; rw [List.length_set]; exact ledger_Post.nets_len b n
theorem ledger_Post.in_list {b : List Int} (h : ∀ x ∈ b, ledger_Post.in64 x) (i : Nat) : ledger_Post.in64 (b.getD i 0) := by
  rw [List.getD_eq_getElem?_getD]
  cases hi : b[i]? with
  | none => exact ⟨by decide, by decide⟩
  | some x => exact h x (List.mem_of_getElem? hi)
set_option maxRecDepth 100000 in
set_option maxHeartbeats 8000000 in
theorem ledger_Post.calls (a0_0 : Int) (a0_1 : Int) (a0_2 : Int) (a0_3 : Int) (a0_4 : Int) (a0_5 : Int) (a0_6 : Int) (a0_7 : Int) (a0_8 : Int) (a0_9 : Int) (a0_10 : Int) (a0_11 : Int) (A0 : Option Addr) (c0 : Nat) (l0 : List S43) (r0 : Int) (r1 : Int) (r2 : Int) (r3 : Int) (r4 : Int) (r5 : Int) (r6 : Int) (r7 : Int) (r8 : Int) (r9 : Int) (r10 : Int) (r11 : Int) (r12 : Int) (w : World) (hr0 : Kd.C k43 w A0 l0.length l0) (hc0 : l0.length ≤ c0) (hL : Laid w) (h : ledger_Post.f a0_0 a0_1 a0_2 a0_3 a0_4 a0_5 a0_6 a0_7 a0_8 a0_9 a0_10 a0_11 l0 = some (r0, r1, r2, r3, r4, r5, r6, r7, r8, r9, r10, r11, r12)) :
    Calls Tryd.prog 17 #[.agg #[.int .i64 a0_0, .int .i64 a0_1, .int .i64 a0_2, .int .i64 a0_3, .int .i64 a0_4, .int .i64 a0_5, .int .i64 a0_6, .int .i64 a0_7, .int .i64 a0_8, .int .i64 a0_9, .int .i64 a0_10, .int .i64 a0_11], .slice A0 l0.length c0] w fun e w' => e = .returned (.tuple #[.agg #[.int .i64 r0, .int .i64 r1, .int .i64 r2, .int .i64 r3, .int .i64 r4, .int .i64 r5, .int .i64 r6, .int .i64 r7, .int .i64 r8, .int .i64 r9, .int .i64 r10, .int .i64 r11], .int .i64 r12]) ∧ Below w.heap.size w w' := by
  have HL := Aside0.mk hL
  have HR0 := Aside0.mk hr0
  have hmax := hr0.2.1
  have hu1 := Tryd.underlying22
  have hu2 := Tryd.underlying68
  have hu3 := Tryd.underlying24
  have hu4 := Tryd.underlying67
  have hu5 := Tryd.underlying43
  have hu6 := Tryd.underlying63
  have HB := Aside0.mk (Below.refl w.heap.size w)
  unfold ledger_Post.f at h
  split at h
  case isFalse => cases h
  rename_i hcond
  have HE := Aside0.mk hcond.1
  have HX := Aside0.mk (ledger_Post.in_list hcond.2)
  have HM := Aside0.mk hmax
  have RES := Aside0.mk (Option.some.inj h)
  clear h hL hr0 hc0 hcond
  go_enter Tryd.func17, Tryd.ntmps17
  go_wp2_with (first | ((with_reducible refine gate_dst (N := 2) rfl ?_); refine box_event ?hg (N := 2) ?hd (cs := #[.int .i64 a0_0, .int .i64 a0_1, .int .i64 a0_2, .int .i64 a0_3, .int .i64 a0_4, .int .i64 a0_5, .int .i64 a0_6, .int .i64 a0_7, .int .i64 a0_8, .int .i64 a0_9, .int .i64 a0_10, .int .i64 a0_11]) (t := 24) ?hr ?_; (case hd => rfl); (case hg => rfl); (case hr => first | (go_simp; done) | (go_simp; rfl)); intro gB hg w1 hbox hb; have n0_ := Aside0.mk (below_step (by repeat (first | (with_reducible first | exact HB.out | apply below_alloc | apply pw_below_drewN | apply below_drew1) | exact HB.out)) hb); have GB := Aside0.mk (show w.heap.size ≤ gB from by rw [hg]; exact below_size (by repeat (first | (with_reducible first | exact HB.out | apply below_alloc | apply pw_below_drewN | apply below_drew1) | exact HB.out))); clear HB; have HB := n0_; clear n0_; have BB := Aside0.mk hbox; clear hbox hb hg) | ((with_reducible refine gate_dst (N := 4) rfl ?_); refine box_event ?hg (N := 4) ?hd (cs := #[.int .i64 0, .int .i64 0, .int .i64 0, .int .i64 0, .int .i64 0, .int .i64 0, .int .i64 0, .int .i64 0, .int .i64 0, .int .i64 0, .int .i64 0, .int .i64 0]) (t := 24) ?hr ?_; (case hd => rfl); (case hg => rfl); (case hr => first | (go_simp; done) | (go_simp; rfl)); intro gR hg w2 hbox hb; have n0_ := Aside0.mk (below_step (by repeat (first | (with_reducible first | exact HB.out | apply below_alloc | apply pw_below_drewN | apply below_drew1) | exact HB.out)) hb); have GR := Aside0.mk (show w.heap.size ≤ gR from by rw [hg]; exact below_size (by repeat (first | (with_reducible first | exact HB.out | apply below_alloc | apply pw_below_drewN | apply below_drew1) | exact HB.out))); have NBR : gB ≠ gR := (by rw [hg]; exact Nat.ne_of_lt (blk_lt (g := gB) (o := .cells #[.int .i64 a0_0, .int .i64 a0_1, .int .i64 a0_2, .int .i64 a0_3, .int .i64 a0_4, .int .i64 a0_5, .int .i64 a0_6, .int .i64 a0_7, .int .i64 a0_8, .int .i64 a0_9, .int .i64 a0_10, .int .i64 a0_11] 24 (0, 0)) (by (with_reducible repeat (first | refine blk_drewN ?_ _ | refine blk_drew ?_ | refine blk_alloc ?_ _)); exact BB.out))); have NRB := NBR.symm; have n_ := Aside0.mk (blk_below (g := gB) (o := .cells #[.int .i64 a0_0, .int .i64 a0_1, .int .i64 a0_2, .int .i64 a0_3, .int .i64 a0_4, .int .i64 a0_5, .int .i64 a0_6, .int .i64 a0_7, .int .i64 a0_8, .int .i64 a0_9, .int .i64 a0_10, .int .i64 a0_11] 24 (0, 0)) (by (with_reducible repeat (first | refine blk_drewN ?_ _ | refine blk_drew ?_ | refine blk_alloc ?_ _)); exact BB.out) hb); clear BB; have BB := n_; clear n_; clear HB; have HB := n0_; clear n0_; have BR := Aside0.mk hbox; clear hbox hb hg) | ((with_reducible refine gate_dst (N := 6) rfl ?_); refine box_event ?hg (N := 6) ?hd (cs := #[.int .i64 0, .int .u64 0, .int .i64 0, .int .u64 0, .int .i64 0, .int .u64 0, .int .i64 0, .int .u64 0, .int .i64 0, .int .u64 0, .int .i64 0, .int .u64 0, .int .i64 0, .int .u64 0, .int .i64 0, .int .u64 0, .int .i64 0, .int .u64 0, .int .i64 0, .int .u64 0, .int .i64 0, .int .u64 0, .int .i64 0, .int .u64 0]) (t := 68) ?hr ?_; (case hd => rfl); (case hg => rfl); (case hr => first | (go_simp; done) | (go_simp; rfl)); intro gN hg w3 hbox hb; have n0_ := Aside0.mk (below_step (by repeat (first | (with_reducible first | exact HB.out | apply below_alloc | apply pw_below_drewN | apply below_drew1) | exact HB.out)) hb); have GN := Aside0.mk (show w.heap.size ≤ gN from by rw [hg]; exact below_size (by repeat (first | (with_reducible first | exact HB.out | apply below_alloc | apply pw_below_drewN | apply below_drew1) | exact HB.out))); have NBN : gB ≠ gN := (by rw [hg]; exact Nat.ne_of_lt (blk_lt (g := gB) (o := .cells #[.int .i64 a0_0, .int .i64 a0_1, .int .i64 a0_2, .int .i64 a0_3, .int .i64 a0_4, .int .i64 a0_5, .int .i64 a0_6, .int .i64 a0_7, .int .i64 a0_8, .int .i64 a0_9, .int .i64 a0_10, .int .i64 a0_11] 24 (0, 0)) (by (with_reducible repeat (first | refine blk_drewN ?_ _ | refine blk_drew ?_ | refine blk_alloc ?_ _)); exact BB.out))); have NNB := NBN.symm; have n_ := Aside0.mk (blk_below (g := gB) (o := .cells #[.int .i64 a0_0, .int .i64 a0_1, .int .i64 a0_2, .int .i64 a0_3, .int .i64 a0_4, .int .i64 a0_5, .int .i64 a0_6, .int .i64 a0_7, .int .i64 a0_8, .int .i64 a0_9, .int .i64 a0_10, .int .i64 a0_11] 24 (0, 0)) (by (with_reducible repeat (first | refine blk_drewN ?_ _ | refine blk_drew ?_ | refine blk_alloc ?_ _)); exact BB.out) hb); clear BB; have BB := n_; clear n_; have NRN : gR ≠ gN := (by rw [hg]; exact Nat.ne_of_lt (blk_lt (g := gR) (o := .cells #[.int .i64 0, .int .i64 0, .int .i64 0, .int .i64 0, .int .i64 0, .int .i64 0, .int .i64 0, .int .i64 0, .int .i64 0, .int .i64 0, .int .i64 0, .int .i64 0] 24 (0, 0)) (by (with_reducible repeat (first | refine blk_drewN ?_ _ | refine blk_drew ?_ | refine blk_alloc ?_ _)); exact BR.out))); have NNR := NRN.symm; have n_ := Aside0.mk (blk_below (g := gR) (o := .cells #[.int .i64 0, .int .i64 0, .int .i64 0, .int .i64 0, .int .i64 0, .int .i64 0, .int .i64 0, .int .i64 0, .int .i64 0, .int .i64 0, .int .i64 0, .int .i64 0] 24 (0, 0)) (by (with_reducible repeat (first | refine blk_drewN ?_ _ | refine blk_drew ?_ | refine blk_alloc ?_ _)); exact BR.out) hb); clear BR; have BR := n_; clear n_; clear HB; have HB := n0_; clear n0_; have BN := Aside0.mk hbox; clear hbox hb hg) | ((with_reducible refine gate_dst (N := 20) rfl ?_); refine wpList_load_row rfl 22 (.tmp 19) rfl gB rfl 24 #[.int .i64 a0_0, .int .i64 a0_1, .int .i64 a0_2, .int .i64 a0_3, .int .i64 a0_4, .int .i64 a0_5, .int .i64 a0_6, .int .i64 a0_7, .int .i64 a0_8, .int .i64 a0_9, .int .i64 a0_10, .int .i64 a0_11] (0, 0) _ ?hbk hu1 rfl ?hsz ?_; (case hbk => (with_reducible repeat (first | refine blk_drewN ?_ _ | refine blk_drew ?_ | refine blk_alloc ?_ _)); exact BB.out); (case hsz => kernel_rfl)))
  go_loopw [21] (fun i wr => ∃ n : Nat, n ≤ 12 ∧ i = .int .i64 n ∧ Aside0 (wr.heap[gB]? = some (.cells #[.int .i64 a0_0, .int .i64 a0_1, .int .i64 a0_2, .int .i64 a0_3, .int .i64 a0_4, .int .i64 a0_5, .int .i64 a0_6, .int .i64 a0_7, .int .i64 a0_8, .int .i64 a0_9, .int .i64 a0_10, .int .i64 a0_11] 24 (0, 0))) ∧ Aside0 (wr.heap[gR]? = some (.cells #[.int .i64 0, .int .i64 0, .int .i64 0, .int .i64 0, .int .i64 0, .int .i64 0, .int .i64 0, .int .i64 0, .int .i64 0, .int .i64 0, .int .i64 0, .int .i64 0] 24 (0, 0))) ∧ Aside0 (wr.heap[gN]? = some (.cells (ledger_Post.rowN (ledger_Post.nets [a0_0, a0_1, a0_2, a0_3, a0_4, a0_5, a0_6, a0_7, a0_8, a0_9, a0_10, a0_11] n)) 68 (0, 0))) ∧ Aside0 (Below w.heap.size w wr)) (fun i _ => 12 - (intOf i).toNat)
  case atStart => exact ⟨0, by omega, rfl, BB, BR, BN, HB⟩
  case round =>
    clear BB BR BN HB
    obtain ⟨n, hn, rfl, BB, BR, BN, HB⟩ := hrel
    by_cases hlt : n < 12
    · have hix := ledger_Post.idx12 a0_0 a0_1 a0_2 a0_3 a0_4 a0_5 a0_6 a0_7 a0_8 a0_9 a0_10 a0_11 n hlt
      obtain ⟨x, hx⟩ : ∃ x, x = ([a0_0, a0_1, a0_2, a0_3, a0_4, a0_5, a0_6, a0_7, a0_8, a0_9, a0_10, a0_11] : List Int).getD n 0 := ⟨_, rfl⟩
      rw [← hx] at hix
      have HXn := Aside0.mk hx
      clear hx
      have hl := ledger_Post.nets_len [a0_0, a0_1, a0_2, a0_3, a0_4, a0_5, a0_6, a0_7, a0_8, a0_9, a0_10, a0_11] n
      have hgets := ledger_Post.rowN_get (ledger_Post.nets [a0_0, a0_1, a0_2, a0_3, a0_4, a0_5, a0_6, a0_7, a0_8, a0_9, a0_10, a0_11] n) n (by omega)
      have hset := ledger_Post.rowN_set (ledger_Post.nets [a0_0, a0_1, a0_2, a0_3, a0_4, a0_5, a0_6, a0_7, a0_8, a0_9, a0_10, a0_11] n) n (ledger_Post.pl (0, 0) x) (by omega)
      have hep := ledger_Post.pl_f (p := (0, 0)) ⟨by decide, by decide⟩ x
      have hstep : ledger_Post.nets [a0_0, a0_1, a0_2, a0_3, a0_4, a0_5, a0_6, a0_7, a0_8, a0_9, a0_10, a0_11] (n + 1) = (ledger_Post.nets [a0_0, a0_1, a0_2, a0_3, a0_4, a0_5, a0_6, a0_7, a0_8, a0_9, a0_10, a0_11] n).set n (ledger_Post.pl (0, 0) x) := by rw [HXn.out]; rfl
      rw [← hstep] at hset
      obtain ⟨⟨p1, p2⟩, hp⟩ : ∃ p, p = ledger_Post.pl (0, 0) x := ⟨_, rfl⟩
      rw [← hp] at hset hep
      obtain ⟨⟨u0, u1⟩, hu⟩ : ∃ u, u = (ledger_Post.nets [a0_0, a0_1, a0_2, a0_3, a0_4, a0_5, a0_6, a0_7, a0_8, a0_9, a0_10, a0_11] n).getD n (0, 0) := ⟨_, rfl⟩
      rw [← hu] at hgets
      dsimp only at hset hep hgets
      have EP := Aside0.mk hep
      have HG0 := Aside0.mk hgets.1
      have HG1 := Aside0.mk hgets.2
      have HS := Aside0.mk hset
      have HLT := Aside0.mk hlt
      have q0 : (0 : Int) ≤ (n : Int) := by omega
      have q1 : (n : Int) < 12 := by omega
      have q2 : n < 12 := hlt
      clear hp hep hgets hset hstep hl hu
      go_wp2_with (first | (go_at_call 35; refine (ledger_wide_plus.calls 0 0 x p1 p2 _ EP.out).mono ?_; rintro e w' ⟨rfl, hb⟩; have n0_ := Aside0.mk (below_step HB.out hb); have n1_ := Aside0.mk (blk_below BB.out hb); have n2_ := Aside0.mk (blk_below BR.out hb); have n3_ := Aside0.mk (blk_below BN.out hb); clear HB BB BR BN hb; have HB := n0_; have BB := n1_; have BR := n2_; have BN := n3_; clear n0_ n1_ n2_ n3_; have nc0 : w'.cell? ⟨gN, n * 2, none⟩ = some (.int .i64 u0) := (blk_cell BN.out (n * 2)).trans HG0.out; have nc1 : w'.cell? ⟨gN, n * 2 + 1, none⟩ = some (.int .u64 u1) := (blk_cell BN.out (n * 2 + 1)).trans HG1.out; have nf0 := blk_frozen BN.out (n * 2); have nf1 := blk_frozen BN.out (n * 2 + 1)))
      go_roundw
      case rel => exact ⟨n + 1, HLT.out, by go_num, ⟨by (with_reducible repeat (first | refine blk_drewN ?_ _ | refine blk_drew ?_ | refine blk_alloc ?_ _)); refine blk_far ?_ NBN _; (with_reducible repeat (first | refine blk_drewN ?_ _ | refine blk_drew ?_ | refine blk_alloc ?_ _)); refine blk_far ?_ NBN _; (with_reducible repeat (first | refine blk_drewN ?_ _ | refine blk_drew ?_ | refine blk_alloc ?_ _)); exact BB.out⟩, ⟨by (with_reducible repeat (first | refine blk_drewN ?_ _ | refine blk_drew ?_ | refine blk_alloc ?_ _)); refine blk_far ?_ NRN _; (with_reducible repeat (first | refine blk_drewN ?_ _ | refine blk_drew ?_ | refine blk_alloc ?_ _)); refine blk_far ?_ NRN _; (with_reducible repeat (first | refine blk_drewN ?_ _ | refine blk_drew ?_ | refine blk_alloc ?_ _)); exact BR.out⟩, ⟨by (with_reducible repeat (first | refine blk_drewN ?_ _ | refine blk_drew ?_ | refine blk_alloc ?_ _)); refine blk_put (cs := (ledger_Post.rowN (ledger_Post.nets [a0_0, a0_1, a0_2, a0_3, a0_4, a0_5, a0_6, a0_7, a0_8, a0_9, a0_10, a0_11] n)).setIfInBounds (n * 2) (.int .i64 p1)) ?_ (n * 2 + 1) _ HS.out; (with_reducible repeat (first | refine blk_drewN ?_ _ | refine blk_drew ?_ | refine blk_alloc ?_ _)); refine blk_put (cs := ledger_Post.rowN (ledger_Post.nets [a0_0, a0_1, a0_2, a0_3, a0_4, a0_5, a0_6, a0_7, a0_8, a0_9, a0_10, a0_11] n)) ?_ (n * 2) _ rfl; (with_reducible repeat (first | refine blk_drewN ?_ _ | refine blk_drew ?_ | refine blk_alloc ?_ _)); exact BN.out⟩, ⟨by repeat (first | (with_reducible first | exact HB.out | apply below_alloc | apply pw_below_drewN | apply below_drew1 | refine below_set ?_ GN.out) | exact HB.out)⟩⟩
      case measure => first | (simp [intOf]; done) | (simp [intOf]; omega)
    have hn12 : n = 12 := by omega
    subst hn12
    clear hlt hn
    go_wp2
    go_loopw [33] (fun i wr => ∃ n : Nat, n ≤ l0.length ∧ i = .int .i64 n ∧ Aside0 (∀ e ∈ l0.take n, ledger_Post.err e = 0) ∧ Aside0 (wr.heap[gB]? = some (.cells #[.int .i64 a0_0, .int .i64 a0_1, .int .i64 a0_2, .int .i64 a0_3, .int .i64 a0_4, .int .i64 a0_5, .int .i64 a0_6, .int .i64 a0_7, .int .i64 a0_8, .int .i64 a0_9, .int .i64 a0_10, .int .i64 a0_11] 24 (0, 0))) ∧ Aside0 (wr.heap[gR]? = some (.cells #[.int .i64 0, .int .i64 0, .int .i64 0, .int .i64 0, .int .i64 0, .int .i64 0, .int .i64 0, .int .i64 0, .int .i64 0, .int .i64 0, .int .i64 0, .int .i64 0] 24 (0, 0))) ∧ Aside0 (wr.heap[gN]? = some (.cells (ledger_Post.rowN (ledger_Post.run [a0_0, a0_1, a0_2, a0_3, a0_4, a0_5, a0_6, a0_7, a0_8, a0_9, a0_10, a0_11] l0 n)) 68 (0, 0))) ∧ Aside0 (Below w.heap.size w wr)) (fun i _ => l0.length - (intOf i).toNat)
    case atStart => exact ⟨0, by omega, rfl, ⟨fun e he => absurd he (by rw [List.take_zero]; exact List.not_mem_nil)⟩, BB, BR, ⟨by have h := BN.out; exact h⟩, HB⟩
    case round =>
      clear BB BR BN HB
      obtain ⟨n, hn, rfl, HG, BB, BR, BN, HB⟩ := hrel
      by_cases hlt : n < l0.length
      · obtain ⟨ad, ea, hx0, hx1, hx2⟩ := at_T43 HR0.out (n : Int) (by omega) (by omega)
        cases ea
        rw [Int.toNat_natCast] at hx0 hx1 hx2
        obtain ⟨e, he⟩ : ∃ e, e = rd_T43 l0 (n : Int) := ⟨_, rfl⟩
        rw [← he] at hx0 hx1 hx2
        have hee : l0[n] = e := by rw [he]; unfold rd_T43; simp [hlt]
        have heb := ledger_Post.bad_f e
        obtain ⟨er, her⟩ : ∃ er, er = ledger_Post.err e := ⟨_, rfl⟩
        rw [← her] at heb
        have HEE := Aside0.mk hee
        have HER := Aside0.mk her
        clear he her hee
        obtain ⟨e0, e1, e2⟩ := e
        dsimp only at hx0 hx1 hx2 heb
        have EB := Aside0.mk heb
        have hy0 := (HB.out.cell (World.block_lt_of_cell? w _ hx0)).trans hx0
        have hy1 := (HB.out.cell (World.block_lt_of_cell? w _ hx1)).trans hx1
        have hy2 := (HB.out.cell (World.block_lt_of_cell? w _ hx2)).trans hx2
        clear hx0 hx1 hx2 heb
        by_cases hz : er = 0
        case neg =>
          have d0 : (er != 0) = true := bne_iff_ne.mpr hz
          have d1 : (er == 0) = false := beq_eq_false_iff_ne.mpr hz
          have hs := ledger_Post.end_bad (b := [a0_0, a0_1, a0_2, a0_3, a0_4, a0_5, a0_6, a0_7, a0_8, a0_9, a0_10, a0_11]) hlt HG.out (by rw [HEE.out, ← HER.out]; exact hz)
          have hres := RES.out
          rw [hs] at hres
          have hres2 : (a0_0, a0_1, a0_2, a0_3, a0_4, a0_5, a0_6, a0_7, a0_8, a0_9, a0_10, a0_11, ledger_Post.err l0[n]) = (r0, r1, r2, r3, r4, r5, r6, r7, r8, r9, r10, r11, r12) := hres
          rw [HEE.out, ← HER.out] at hres2
          have HRES := Aside0.mk hres2
          clear hs hres hres2 RES
          clear hz
          go_wp2_with (first | ((with_reducible refine gate_dst (N := 10) rfl ?_); refine box_event ?hg (N := 10) ?hd (cs := #[.int .i64 0, .int .i64 0, .int .i64 0]) (t := 43) ?hr ?_; (case hd => rfl); (case hg => rfl); (case hr => first | (go_simp; done) | (go_simp; rfl)); intro gE hg w4 hbox hb; have n0_ := Aside0.mk (below_step (by repeat (first | (with_reducible first | exact HB.out | apply below_alloc | apply pw_below_drewN | apply below_drew1) | exact HB.out)) hb); have GE := Aside0.mk (show w.heap.size ≤ gE from by rw [hg]; exact below_size (by repeat (first | (with_reducible first | exact HB.out | apply below_alloc | apply pw_below_drewN | apply below_drew1) | exact HB.out))); have NBE : gB ≠ gE := (by rw [hg]; exact Nat.ne_of_lt (blk_lt (g := gB) (o := .cells #[.int .i64 a0_0, .int .i64 a0_1, .int .i64 a0_2, .int .i64 a0_3, .int .i64 a0_4, .int .i64 a0_5, .int .i64 a0_6, .int .i64 a0_7, .int .i64 a0_8, .int .i64 a0_9, .int .i64 a0_10, .int .i64 a0_11] 24 (0, 0)) (by (with_reducible repeat (first | refine blk_drewN ?_ _ | refine blk_drew ?_ | refine blk_alloc ?_ _)); exact BB.out))); have NEB := NBE.symm; have n_ := Aside0.mk (blk_below (g := gB) (o := .cells #[.int .i64 a0_0, .int .i64 a0_1, .int .i64 a0_2, .int .i64 a0_3, .int .i64 a0_4, .int .i64 a0_5, .int .i64 a0_6, .int .i64 a0_7, .int .i64 a0_8, .int .i64 a0_9, .int .i64 a0_10, .int .i64 a0_11] 24 (0, 0)) (by (with_reducible repeat (first | refine blk_drewN ?_ _ | refine blk_drew ?_ | refine blk_alloc ?_ _)); exact BB.out) hb); clear BB; have BB := n_; clear n_; have NRE : gR ≠ gE := (by rw [hg]; exact Nat.ne_of_lt (blk_lt (g := gR) (o := .cells #[.int .i64 0, .int .i64 0, .int .i64 0, .int .i64 0, .int .i64 0, .int .i64 0, .int .i64 0, .int .i64 0, .int .i64 0, .int .i64 0, .int .i64 0, .int .i64 0] 24 (0, 0)) (by (with_reducible repeat (first | refine blk_drewN ?_ _ | refine blk_drew ?_ | refine blk_alloc ?_ _)); exact BR.out))); have NER := NRE.symm; have n_ := Aside0.mk (blk_below (g := gR) (o := .cells #[.int .i64 0, .int .i64 0, .int .i64 0, .int .i64 0, .int .i64 0, .int .i64 0, .int .i64 0, .int .i64 0, .int .i64 0, .int .i64 0, .int .i64 0, .int .i64 0] 24 (0, 0)) (by (with_reducible repeat (first | refine blk_drewN ?_ _ | refine blk_drew ?_ | refine blk_alloc ?_ _)); exact BR.out) hb); clear BR; have BR := n_; clear n_; have NNE : gN ≠ gE := (by rw [hg]; exact Nat.ne_of_lt (blk_lt (g := gN) (o := .cells (ledger_Post.rowN (ledger_Post.run [a0_0, a0_1, a0_2, a0_3, a0_4, a0_5, a0_6, a0_7, a0_8, a0_9, a0_10, a0_11] l0 n)) 68 (0, 0)) (by (with_reducible repeat (first | refine blk_drewN ?_ _ | refine blk_drew ?_ | refine blk_alloc ?_ _)); exact BN.out))); have NEN := NNE.symm; have n_ := Aside0.mk (blk_below (g := gN) (o := .cells (ledger_Post.rowN (ledger_Post.run [a0_0, a0_1, a0_2, a0_3, a0_4, a0_5, a0_6, a0_7, a0_8, a0_9, a0_10, a0_11] l0 n)) 68 (0, 0)) (by (with_reducible repeat (first | refine blk_drewN ?_ _ | refine blk_drew ?_ | refine blk_alloc ?_ _)); exact BN.out) hb); clear BN; have BN := n_; clear n_; clear HB; have HB := n0_; clear n0_; have BE := Aside0.mk hbox; clear hbox hb hg) | ((with_reducible refine gate_store rfl ?_); refine Hand.store_row_event rfl 43 (.tmp 10) (.tmp 36) rfl gE #[.int .i64 e0, .int .i64 e1, .int .i64 e2] rfl rfl 43 #[.int .i64 0, .int .i64 0, .int .i64 0] ?hbk (by kernel_rfl) (by kernel_rfl) (by kernel_rfl) ?_; (case hbk => (with_reducible repeat (first | refine blk_drewN ?_ _ | refine blk_drew ?_ | refine blk_alloc ?_ _)); exact BE.out); intro w9 hnew_ hfar_ hbel_; have m_ := Aside0.mk (hbel_ w GE.out (by repeat (first | (with_reducible first | exact HB.out | apply below_alloc | apply pw_below_drewN | apply below_drew1) | exact HB.out))); have n0_ := Aside0.mk ((hfar_ gB NBE).trans (by (with_reducible repeat (first | refine blk_drewN ?_ _ | refine blk_drew ?_ | refine blk_alloc ?_ _)); exact BB.out)); have n1_ := Aside0.mk ((hfar_ gR NRE).trans (by (with_reducible repeat (first | refine blk_drewN ?_ _ | refine blk_drew ?_ | refine blk_alloc ?_ _)); exact BR.out)); have n2_ := Aside0.mk ((hfar_ gN NNE).trans (by (with_reducible repeat (first | refine blk_drewN ?_ _ | refine blk_drew ?_ | refine blk_alloc ?_ _)); exact BN.out)); clear BE HB BB BR BN; have HB := m_; have BE := Aside0.mk hnew_; have BB := n0_; clear n0_; have BR := n1_; clear n1_; have BN := n2_; clear n2_; clear m_ hnew_ hfar_ hbel_) | ((with_reducible refine gate_dst (N := 37) rfl ?_); refine wpList_load_row rfl 43 (.tmp 10) rfl gE rfl 43 #[.int .i64 e0, .int .i64 e1, .int .i64 e2] (0, 0) _ ?hbk hu5 rfl ?hsz ?_; (case hbk => (with_reducible repeat (first | refine blk_drewN ?_ _ | refine blk_drew ?_ | refine blk_alloc ?_ _)); exact BE.out); (case hsz => kernel_rfl)) | (go_at_call 36; refine (ledger_bad.calls 1 e0 e1 e2 er _ EB.out).mono ?_; rintro e w' ⟨rfl, hb⟩; have n0_ := Aside0.mk (below_step (by repeat (first | (with_reducible first | exact HB.out | apply below_alloc | apply pw_below_drewN | apply below_drew1) | exact HB.out)) hb); have n1_ := Aside0.mk (blk_below (o := .cells #[.int .i64 e0, .int .i64 e1, .int .i64 e2] 43 (0, 0)) (by (with_reducible repeat (first | refine blk_drewN ?_ _ | refine blk_drew ?_ | refine blk_alloc ?_ _)); exact BE.out) hb); have n2_ := Aside0.mk (blk_below (o := .cells #[.int .i64 a0_0, .int .i64 a0_1, .int .i64 a0_2, .int .i64 a0_3, .int .i64 a0_4, .int .i64 a0_5, .int .i64 a0_6, .int .i64 a0_7, .int .i64 a0_8, .int .i64 a0_9, .int .i64 a0_10, .int .i64 a0_11] 24 (0, 0)) (by (with_reducible repeat (first | refine blk_drewN ?_ _ | refine blk_drew ?_ | refine blk_alloc ?_ _)); exact BB.out) hb); have n3_ := Aside0.mk (blk_below (o := .cells #[.int .i64 0, .int .i64 0, .int .i64 0, .int .i64 0, .int .i64 0, .int .i64 0, .int .i64 0, .int .i64 0, .int .i64 0, .int .i64 0, .int .i64 0, .int .i64 0] 24 (0, 0)) (by (with_reducible repeat (first | refine blk_drewN ?_ _ | refine blk_drew ?_ | refine blk_alloc ?_ _)); exact BR.out) hb); have n4_ := Aside0.mk (blk_below (o := .cells (ledger_Post.rowN (ledger_Post.run [a0_0, a0_1, a0_2, a0_3, a0_4, a0_5, a0_6, a0_7, a0_8, a0_9, a0_10, a0_11] l0 n)) 68 (0, 0)) (by (with_reducible repeat (first | refine blk_drewN ?_ _ | refine blk_drew ?_ | refine blk_alloc ?_ _)); exact BN.out) hb); clear HB BE BB BR BN hb hy0 hy1 hy2; have HB := n0_; have BE := n1_; have BB := n2_; have BR := n3_; have BN := n4_; clear n0_ n1_ n2_ n3_ n4_) | ((with_reducible refine gate_dst (N := 41) rfl ?_); refine wpList_load_row rfl 24 (.tmp 2) rfl gB rfl 24 #[.int .i64 a0_0, .int .i64 a0_1, .int .i64 a0_2, .int .i64 a0_3, .int .i64 a0_4, .int .i64 a0_5, .int .i64 a0_6, .int .i64 a0_7, .int .i64 a0_8, .int .i64 a0_9, .int .i64 a0_10, .int .i64 a0_11] (0, 0) _ ?hbk hu3 rfl ?hsz ?_; (case hbk => (with_reducible repeat (first | refine blk_drewN ?_ _ | refine blk_drew ?_ | refine blk_alloc ?_ _)); exact BB.out); (case hsz => kernel_rfl)) | ((with_reducible refine gate_store rfl ?_); refine Hand.store_row_event rfl 24 (.tmp 4) (.tmp 41) rfl gR #[.int .i64 a0_0, .int .i64 a0_1, .int .i64 a0_2, .int .i64 a0_3, .int .i64 a0_4, .int .i64 a0_5, .int .i64 a0_6, .int .i64 a0_7, .int .i64 a0_8, .int .i64 a0_9, .int .i64 a0_10, .int .i64 a0_11] rfl rfl 24 #[.int .i64 0, .int .i64 0, .int .i64 0, .int .i64 0, .int .i64 0, .int .i64 0, .int .i64 0, .int .i64 0, .int .i64 0, .int .i64 0, .int .i64 0, .int .i64 0] ?hbk (by kernel_rfl) (by kernel_rfl) (by kernel_rfl) ?_; (case hbk => (with_reducible repeat (first | refine blk_drewN ?_ _ | refine blk_drew ?_ | refine blk_alloc ?_ _)); exact BR.out); intro w9 hnew_ hfar_ hbel_; have m_ := Aside0.mk (hbel_ w GR.out (by repeat (first | (with_reducible first | exact HB.out | apply below_alloc | apply pw_below_drewN | apply below_drew1) | exact HB.out))); clear BR HB ; have HB := m_; have BR := Aside0.mk hnew_; clear m_ hnew_ hfar_ hbel_))
          refine bodyPost_ret (results_ct rfl _ _ gR 24 #[.int .i64 a0_0, .int .i64 a0_1, .int .i64 a0_2, .int .i64 a0_3, .int .i64 a0_4, .int .i64 a0_5, .int .i64 a0_6, .int .i64 a0_7, .int .i64 a0_8, .int .i64 a0_9, .int .i64 a0_10, .int .i64 a0_11] (0, 0) _ rfl (by (with_reducible repeat (first | refine blk_drewN ?_ _ | refine blk_drew ?_ | refine blk_alloc ?_ _)); exact BR.out) hu3 rfl (by kernel_rfl)) rfl ?_
          have hres2 := HRES.out
          simp only [Prod.mk.injEq] at hres2
          obtain ⟨rfl, rfl, rfl, rfl, rfl, rfl, rfl, rfl, rfl, rfl, rfl, rfl, rfl⟩ := hres2
          exact ⟨rfl, by repeat (first | (with_reducible first | exact HB.out | apply below_alloc | apply pw_below_drewN | apply below_drew1) | exact HB.out)⟩
        case pos =>
          subst hz
          have hg2 := ledger_Post.err_zero HER.out.symm
          obtain ⟨⟨g0, g1⟩, ⟨g2, g3⟩, g4, g5⟩ := hg2
          dsimp only at g0 g1 g2 g3 g4 g5
          obtain ⟨i0, rfl⟩ := Int.eq_ofNat_of_zero_le g0
          obtain ⟨i1, rfl⟩ := Int.eq_ofNat_of_zero_le g2
          have q0 : i0 < 12 := by omega
          have q1 : i1 < 12 := by omega
          have q01 : i0 ≠ i1 := by omega
          obtain ⟨N, hN⟩ : ∃ N, N = (ledger_Post.run [a0_0, a0_1, a0_2, a0_3, a0_4, a0_5, a0_6, a0_7, a0_8, a0_9, a0_10, a0_11] l0 n) := ⟨_, rfl⟩
          have hlN : N.length = 12 := by rw [hN]; exact (ledger_Post.stands_run [a0_0, a0_1, a0_2, a0_3, a0_4, a0_5, a0_6, a0_7, a0_8, a0_9, a0_10, a0_11] l0 HX.out HE.out HM.out n (by omega) HG.out).1
          have hokN := fun j => ((ledger_Post.stands_run [a0_0, a0_1, a0_2, a0_3, a0_4, a0_5, a0_6, a0_7, a0_8, a0_9, a0_10, a0_11] l0 HX.out HE.out HM.out n (by omega) HG.out).2 j).1
          have hsucc := ledger_Post.run_succ [a0_0, a0_1, a0_2, a0_3, a0_4, a0_5, a0_6, a0_7, a0_8, a0_9, a0_10, a0_11] l0 n hlt
          rw [HEE.out] at hsucc
          rw [← hN] at hokN hsucc BN
          unfold ledger_Post.move2 ledger_Post.move1 at hsucc
          dsimp only at hsucc
          rw [Int.toNat_natCast, Int.toNat_natCast] at hsucc
          have ep1 := ledger_Post.pl_f (hokN i0) e2
          have hg1 := ledger_Post.rowN_get N i0 (by omega)
          have hs1 := ledger_Post.rowN_set N i0 (ledger_Post.pl (N.getD i0 (0, 0)) e2) (by omega)
          obtain ⟨M, hM⟩ : ∃ M, M = N.set i0 (ledger_Post.pl (N.getD i0 (0, 0)) e2) := ⟨_, rfl⟩
          have hlM : M.length = 12 := by rw [hM, List.length_set]; exact hlN
          have hokM : ledger_Post.ok (M.getD i1 (0, 0)) := by rw [hM, ledger_Post.getD_set _ _ _ _ _ (by omega), if_neg q01]; exact hokN i1
          rw [← hM] at hs1 hsucc
          have ep2 := ledger_Post.mi_f hokM e2
          have hg2 := ledger_Post.rowN_get M i1 (by omega)
          have hs2 := ledger_Post.rowN_set M i1 (ledger_Post.mi (M.getD i1 (0, 0)) e2) (by omega)
          rw [← hsucc] at hs2
          obtain ⟨⟨p1, p2⟩, hp⟩ : ∃ p, p = ledger_Post.pl (N.getD i0 (0, 0)) e2 := ⟨_, rfl⟩
          obtain ⟨⟨p3, p4⟩, hp'⟩ : ∃ p, p = ledger_Post.mi (M.getD i1 (0, 0)) e2 := ⟨_, rfl⟩
          rw [← hp] at ep1 hs1
          rw [← hp'] at ep2 hs2
          clear hp hp' hM
          obtain ⟨⟨u0, u1⟩, hu⟩ : ∃ u, u = N.getD i0 (0, 0) := ⟨_, rfl⟩
          obtain ⟨⟨v0, v1⟩, hv⟩ : ∃ u, u = M.getD i1 (0, 0) := ⟨_, rfl⟩
          rw [← hu] at ep1 hg1
          rw [← hv] at ep2 hg2
          clear hu hv
          dsimp only at ep1 hg1 hs1 ep2 hg2 hs2
          have EP1 := Aside0.mk ep1
          have EP2 := Aside0.mk ep2
          have G10 := Aside0.mk hg1.1
          have G11 := Aside0.mk hg1.2
          have G20 := Aside0.mk hg2.1
          have G21 := Aside0.mk hg2.2
          have S1 := Aside0.mk hs1
          have S2 := Aside0.mk hs2
          have HLT := Aside0.mk hlt
          have HNN := Aside0.mk hN
          have b0 := eq_true (show (0 : Int) ≤ (i0 : Int) by omega)
          have b1 := eq_true (show (i0 : Int) < 12 by omega)
          have b2 := eq_true (show i0 < 12 by omega)
          have b3 := eq_true (show (0 : Int) ≤ (i1 : Int) by omega)
          have b4 := eq_true (show (i1 : Int) < 12 by omega)
          have b5 := eq_true (show i1 < 12 by omega)
          clear ep1 hg1 hs1 ep2 hg2 hs2 hlN hokN hsucc hlM hokM q0 q1 q01 g0 g1 g2 g3 g4 g5 hN
          go_wp2_with (first | ((with_reducible refine gate_dst (N := 10) rfl ?_); refine box_event ?hg (N := 10) ?hd (cs := #[.int .i64 0, .int .i64 0, .int .i64 0]) (t := 43) ?hr ?_; (case hd => rfl); (case hg => rfl); (case hr => first | (go_simp; done) | (go_simp; rfl)); intro gE hg w4 hbox hb; have n0_ := Aside0.mk (below_step (by repeat (first | (with_reducible first | exact HB.out | apply below_alloc | apply pw_below_drewN | apply below_drew1) | exact HB.out)) hb); have GE := Aside0.mk (show w.heap.size ≤ gE from by rw [hg]; exact below_size (by repeat (first | (with_reducible first | exact HB.out | apply below_alloc | apply pw_below_drewN | apply below_drew1) | exact HB.out))); have NBE : gB ≠ gE := (by rw [hg]; exact Nat.ne_of_lt (blk_lt (g := gB) (o := .cells #[.int .i64 a0_0, .int .i64 a0_1, .int .i64 a0_2, .int .i64 a0_3, .int .i64 a0_4, .int .i64 a0_5, .int .i64 a0_6, .int .i64 a0_7, .int .i64 a0_8, .int .i64 a0_9, .int .i64 a0_10, .int .i64 a0_11] 24 (0, 0)) (by (with_reducible repeat (first | refine blk_drewN ?_ _ | refine blk_drew ?_ | refine blk_alloc ?_ _)); exact BB.out))); have NEB := NBE.symm; have n_ := Aside0.mk (blk_below (g := gB) (o := .cells #[.int .i64 a0_0, .int .i64 a0_1, .int .i64 a0_2, .int .i64 a0_3, .int .i64 a0_4, .int .i64 a0_5, .int .i64 a0_6, .int .i64 a0_7, .int .i64 a0_8, .int .i64 a0_9, .int .i64 a0_10, .int .i64 a0_11] 24 (0, 0)) (by (with_reducible repeat (first | refine blk_drewN ?_ _ | refine blk_drew ?_ | refine blk_alloc ?_ _)); exact BB.out) hb); clear BB; have BB := n_; clear n_; have NRE : gR ≠ gE := (by rw [hg]; exact Nat.ne_of_lt (blk_lt (g := gR) (o := .cells #[.int .i64 0, .int .i64 0, .int .i64 0, .int .i64 0, .int .i64 0, .int .i64 0, .int .i64 0, .int .i64 0, .int .i64 0, .int .i64 0, .int .i64 0, .int .i64 0] 24 (0, 0)) (by (with_reducible repeat (first | refine blk_drewN ?_ _ | refine blk_drew ?_ | refine blk_alloc ?_ _)); exact BR.out))); have NER := NRE.symm; have n_ := Aside0.mk (blk_below (g := gR) (o := .cells #[.int .i64 0, .int .i64 0, .int .i64 0, .int .i64 0, .int .i64 0, .int .i64 0, .int .i64 0, .int .i64 0, .int .i64 0, .int .i64 0, .int .i64 0, .int .i64 0] 24 (0, 0)) (by (with_reducible repeat (first | refine blk_drewN ?_ _ | refine blk_drew ?_ | refine blk_alloc ?_ _)); exact BR.out) hb); clear BR; have BR := n_; clear n_; have NNE : gN ≠ gE := (by rw [hg]; exact Nat.ne_of_lt (blk_lt (g := gN) (o := .cells (ledger_Post.rowN N) 68 (0, 0)) (by (with_reducible repeat (first | refine blk_drewN ?_ _ | refine blk_drew ?_ | refine blk_alloc ?_ _)); exact BN.out))); have NEN := NNE.symm; have n_ := Aside0.mk (blk_below (g := gN) (o := .cells (ledger_Post.rowN N) 68 (0, 0)) (by (with_reducible repeat (first | refine blk_drewN ?_ _ | refine blk_drew ?_ | refine blk_alloc ?_ _)); exact BN.out) hb); clear BN; have BN := n_; clear n_; clear HB; have HB := n0_; clear n0_; have BE := Aside0.mk hbox; clear hbox hb hg) | ((with_reducible refine gate_store rfl ?_); refine Hand.store_row_event rfl 43 (.tmp 10) (.tmp 36) rfl gE #[.int .i64 (i0 : Int), .int .i64 (i1 : Int), .int .i64 e2] rfl rfl 43 #[.int .i64 0, .int .i64 0, .int .i64 0] ?hbk (by kernel_rfl) (by kernel_rfl) (by kernel_rfl) ?_; (case hbk => (with_reducible repeat (first | refine blk_drewN ?_ _ | refine blk_drew ?_ | refine blk_alloc ?_ _)); exact BE.out); intro w9 hnew_ hfar_ hbel_; have m_ := Aside0.mk (hbel_ w GE.out (by repeat (first | (with_reducible first | exact HB.out | apply below_alloc | apply pw_below_drewN | apply below_drew1) | exact HB.out))); have n0_ := Aside0.mk ((hfar_ gB NBE).trans (by (with_reducible repeat (first | refine blk_drewN ?_ _ | refine blk_drew ?_ | refine blk_alloc ?_ _)); exact BB.out)); have n1_ := Aside0.mk ((hfar_ gR NRE).trans (by (with_reducible repeat (first | refine blk_drewN ?_ _ | refine blk_drew ?_ | refine blk_alloc ?_ _)); exact BR.out)); have n2_ := Aside0.mk ((hfar_ gN NNE).trans (by (with_reducible repeat (first | refine blk_drewN ?_ _ | refine blk_drew ?_ | refine blk_alloc ?_ _)); exact BN.out)); clear BE HB BB BR BN; have HB := m_; have BE := Aside0.mk hnew_; have BB := n0_; clear n0_; have BR := n1_; clear n1_; have BN := n2_; clear n2_; clear m_ hnew_ hfar_ hbel_) | ((with_reducible refine gate_dst (N := 37) rfl ?_); refine wpList_load_row rfl 43 (.tmp 10) rfl gE rfl 43 #[.int .i64 (i0 : Int), .int .i64 (i1 : Int), .int .i64 e2] (0, 0) _ ?hbk hu5 rfl ?hsz ?_; (case hbk => (with_reducible repeat (first | refine blk_drewN ?_ _ | refine blk_drew ?_ | refine blk_alloc ?_ _)); exact BE.out); (case hsz => kernel_rfl)) | (go_at_call 36; refine (ledger_bad.calls 1 (i0 : Int) (i1 : Int) e2 0 _ EB.out).mono ?_; rintro e w' ⟨rfl, hb⟩; have n0_ := Aside0.mk (below_step (by repeat (first | (with_reducible first | exact HB.out | apply below_alloc | apply pw_below_drewN | apply below_drew1) | exact HB.out)) hb); have n1_ := Aside0.mk (blk_below (o := .cells #[.int .i64 (i0 : Int), .int .i64 (i1 : Int), .int .i64 e2] 43 (0, 0)) (by (with_reducible repeat (first | refine blk_drewN ?_ _ | refine blk_drew ?_ | refine blk_alloc ?_ _)); exact BE.out) hb); have n2_ := Aside0.mk (blk_below (o := .cells #[.int .i64 a0_0, .int .i64 a0_1, .int .i64 a0_2, .int .i64 a0_3, .int .i64 a0_4, .int .i64 a0_5, .int .i64 a0_6, .int .i64 a0_7, .int .i64 a0_8, .int .i64 a0_9, .int .i64 a0_10, .int .i64 a0_11] 24 (0, 0)) (by (with_reducible repeat (first | refine blk_drewN ?_ _ | refine blk_drew ?_ | refine blk_alloc ?_ _)); exact BB.out) hb); have n3_ := Aside0.mk (blk_below (o := .cells #[.int .i64 0, .int .i64 0, .int .i64 0, .int .i64 0, .int .i64 0, .int .i64 0, .int .i64 0, .int .i64 0, .int .i64 0, .int .i64 0, .int .i64 0, .int .i64 0] 24 (0, 0)) (by (with_reducible repeat (first | refine blk_drewN ?_ _ | refine blk_drew ?_ | refine blk_alloc ?_ _)); exact BR.out) hb); have n4_ := Aside0.mk (blk_below (o := .cells (ledger_Post.rowN N) 68 (0, 0)) (by (with_reducible repeat (first | refine blk_drewN ?_ _ | refine blk_drew ?_ | refine blk_alloc ?_ _)); exact BN.out) hb); clear HB BE BB BR BN hb hy0 hy1 hy2; have HB := n0_; have BE := n1_; have BB := n2_; have BR := n3_; have BN := n4_; clear n0_ n1_ n2_ n3_ n4_; have ec0 : w'.cell? ⟨gE, 0, none⟩ = some (.int .i64 (i0 : Int)) := (blk_cell BE.out 0).trans rfl; have ef0 := blk_frozen BE.out 0; have ec1 : w'.cell? ⟨gE, 1, none⟩ = some (.int .i64 (i1 : Int)) := (blk_cell BE.out 1).trans rfl; have ef1 := blk_frozen BE.out 1; have ec2 : w'.cell? ⟨gE, 2, none⟩ = some (.int .i64 e2) := (blk_cell BE.out 2).trans rfl; have ef2 := blk_frozen BE.out 2; have nc0 : w'.cell? ⟨gN, i0 * 2, none⟩ = some (.int .i64 u0) := (blk_cell BN.out (i0 * 2)).trans G10.out; have nc1 : w'.cell? ⟨gN, i0 * 2 + 1, none⟩ = some (.int .u64 u1) := (blk_cell BN.out (i0 * 2 + 1)).trans G11.out; have nf0 := blk_frozen BN.out (i0 * 2); have nf1 := blk_frozen BN.out (i0 * 2 + 1)))
          refine wp_region_noPanic ?_
          refine wp_region_held_drew (S := (fun w' => w'.cell? ⟨gE, 0, none⟩ = some (.int .i64 (i0 : Int)) ∧ w'.cell? ⟨gE, 1, none⟩ = some (.int .i64 (i1 : Int)) ∧ w'.cell? ⟨gE, 2, none⟩ = some (.int .i64 e2))) (by kernel_rfl) ⟨ec0, ec1, ec2⟩ (fun hHeld => ?_)
          refine wpAnyH_take (i := 0) (v := ?v1_) (by simp only [List.getElem?_toArray, List.getElem?_cons_zero, List.getElem?_cons_succ]; rfl) (by kernel_rfl) (by kernel_rfl) (by kernel_rfl) (fun _ _ _ h => h) (Or.inl ⟨by rfl, ?hy1_⟩) hHeld ?rest1_
          case hy1_ => (intro w hSw; (try dsimp only at hSw); go_simp; (try with_reducible rfl))
          (try simp only [Act.put, List.setIfInBounds_toArray, List.set_cons_zero, List.set_cons_succ])
          refine wpAnyH_take (i := 1) (v := ?v2_) (by simp only [List.getElem?_toArray, List.getElem?_cons_zero, List.getElem?_cons_succ]; rfl) (by kernel_rfl) (by kernel_rfl) (by kernel_rfl) (fun _ _ _ h => h) (Or.inl ⟨by rfl, ?hy2_⟩) hHeld ?rest2_
          case hy2_ => (intro w hSw; (try dsimp only at hSw); go_simp; (try with_reducible rfl))
          (try simp only [Act.put, List.setIfInBounds_toArray, List.set_cons_zero, List.set_cons_succ])
          refine wpAnyH_take (i := 2) (v := ?v3_) (by simp only [List.getElem?_toArray, List.getElem?_cons_zero, List.getElem?_cons_succ]; rfl) (by kernel_rfl) (by kernel_rfl) (by kernel_rfl) (fun _ _ _ h => h) (Or.inl ⟨by rfl, ?hy3_⟩) hHeld ?rest3_
          case hy3_ => (intro w hSw; (try dsimp only at hSw); go_simp; (try with_reducible rfl))
          (try simp only [Act.put, List.setIfInBounds_toArray, List.set_cons_zero, List.set_cons_succ])
          refine wpAnyH_take (i := 3) (v := ?v4_) (by simp only [List.getElem?_toArray, List.getElem?_cons_zero, List.getElem?_cons_succ]; rfl) (by kernel_rfl) (by kernel_rfl) (by kernel_rfl) (fun _ _ _ h => h) (Or.inl ⟨by rfl, ?hy4_⟩) hHeld ?rest4_
          case hy4_ => (intro w hSw; (try dsimp only at hSw); go_simp; (try with_reducible rfl))
          (try simp only [Act.put, List.setIfInBounds_toArray, List.set_cons_zero, List.set_cons_succ])
          refine wpAnyH_take (i := 4) (v := ?v5_) (by simp only [List.getElem?_toArray, List.getElem?_cons_zero, List.getElem?_cons_succ]; rfl) (by kernel_rfl) (by kernel_rfl) (by kernel_rfl) (fun _ _ _ h => h) (Or.inl ⟨by rfl, ?hy5_⟩) hHeld ?rest5_
          case hy5_ => (intro w hSw; (try dsimp only at hSw); go_simp; (try with_reducible rfl))
          (try simp only [Act.put, List.setIfInBounds_toArray, List.set_cons_zero, List.set_cons_succ])
          refine wpAnyH_take (i := 6) (v := ?v6_) (by simp only [List.getElem?_toArray, List.getElem?_cons_zero, List.getElem?_cons_succ]; rfl) (by kernel_rfl) (by kernel_rfl) (by kernel_rfl) (fun _ _ _ h => h) (Or.inl ⟨by rfl, ?hy6_⟩) hHeld ?rest6_
          case hy6_ => (intro w hSw; (try dsimp only at hSw); go_simp; (try with_reducible rfl))
          (try simp only [Act.put, List.setIfInBounds_toArray, List.set_cons_zero, List.set_cons_succ])
          refine wpAnyH_take (i := 7) (v := ?v7_) (by simp only [List.getElem?_toArray, List.getElem?_cons_zero, List.getElem?_cons_succ]; rfl) (by kernel_rfl) (by kernel_rfl) (by kernel_rfl) (fun _ _ _ h => h) (Or.inl ⟨by rfl, ?hy7_⟩) hHeld ?rest7_
          case hy7_ => (intro w hSw; (try dsimp only at hSw); go_simp; (try with_reducible rfl))
          (try simp only [Act.put, List.setIfInBounds_toArray, List.set_cons_zero, List.set_cons_succ])
          refine wpAnyH_ready (rs := [5]) (by kernel_rfl) (by simp) ?_
          refine AllReadyH.cons (by simp only [List.getElem?_toArray, List.getElem?_cons_zero, List.getElem?_cons_succ]; rfl) (fun K hK => ?_) AllReadyH.nil
          go_simp
          refine hK.out _ _ ⟨ec0, ec1, ec2⟩ (fun hHeld => ?_)
          clear hK K
          (try simp only [Act.put, List.setIfInBounds_toArray, List.set_cons_zero, List.set_cons_succ])
          refine wpAnyH_ready (rs := [8]) (by kernel_rfl) (by simp) ?_
          refine AllReadyH.cons (by simp only [List.getElem?_toArray, List.getElem?_cons_zero, List.getElem?_cons_succ]; rfl) (fun K hK => ?_) AllReadyH.nil
          go_simp
          (go_at_call 35; refine (ledger_wide_plus.calls u0 u1 e2 p1 p2 _ EP1.out).mono ?_; rintro e w' ⟨rfl, hb⟩; have n0_ := Aside0.mk (below_step (by repeat (first | (with_reducible first | exact HB.out | apply below_alloc | apply pw_below_drewN | apply below_drew1) | exact HB.out)) hb); have n1_ := Aside0.mk (blk_below (o := .cells #[.int .i64 (i0 : Int), .int .i64 (i1 : Int), .int .i64 e2] 43 (0, 0)) (by (with_reducible repeat (first | refine blk_drewN ?_ _ | refine blk_drew ?_ | refine blk_alloc ?_ _)); exact BE.out) hb); have n2_ := Aside0.mk (blk_below (o := .cells #[.int .i64 a0_0, .int .i64 a0_1, .int .i64 a0_2, .int .i64 a0_3, .int .i64 a0_4, .int .i64 a0_5, .int .i64 a0_6, .int .i64 a0_7, .int .i64 a0_8, .int .i64 a0_9, .int .i64 a0_10, .int .i64 a0_11] 24 (0, 0)) (by (with_reducible repeat (first | refine blk_drewN ?_ _ | refine blk_drew ?_ | refine blk_alloc ?_ _)); exact BB.out) hb); have n3_ := Aside0.mk (blk_below (o := .cells #[.int .i64 0, .int .i64 0, .int .i64 0, .int .i64 0, .int .i64 0, .int .i64 0, .int .i64 0, .int .i64 0, .int .i64 0, .int .i64 0, .int .i64 0, .int .i64 0] 24 (0, 0)) (by (with_reducible repeat (first | refine blk_drewN ?_ _ | refine blk_drew ?_ | refine blk_alloc ?_ _)); exact BR.out) hb); have n4_ := Aside0.mk (blk_below (o := .cells (ledger_Post.rowN N) 68 (0, 0)) (by (with_reducible repeat (first | refine blk_drewN ?_ _ | refine blk_drew ?_ | refine blk_alloc ?_ _)); exact BN.out) hb); clear HB BE BB BR BN hb ec0 ec1 ec2 ef0 ef1 ef2 nc0 nc1 nf0 nf1; have HB := n0_; have BE := n1_; have BB := n2_; have BR := n3_; have BN := n4_; clear n0_ n1_ n2_ n3_ n4_; have ec0 : w'.cell? ⟨gE, 0, none⟩ = some (.int .i64 (i0 : Int)) := (blk_cell BE.out 0).trans rfl; have ef0 := blk_frozen BE.out 0; have ec1 : w'.cell? ⟨gE, 1, none⟩ = some (.int .i64 (i1 : Int)) := (blk_cell BE.out 1).trans rfl; have ef1 := blk_frozen BE.out 1; have ec2 : w'.cell? ⟨gE, 2, none⟩ = some (.int .i64 e2) := (blk_cell BE.out 2).trans rfl; have ef2 := blk_frozen BE.out 2; have nc0 : w'.cell? ⟨gN, i0 * 2, none⟩ = some (.int .i64 u0) := (blk_cell BN.out (i0 * 2)).trans G10.out; have nc1 : w'.cell? ⟨gN, i0 * 2 + 1, none⟩ = some (.int .u64 u1) := (blk_cell BN.out (i0 * 2 + 1)).trans G11.out; have nf0 := blk_frozen BN.out (i0 * 2); have nf1 := blk_frozen BN.out (i0 * 2 + 1))
          refine hK.out _ _ ⟨ec0, ec1, ec2⟩ (fun hHeld => ?_)
          clear hK K
          (try simp only [Act.put, List.setIfInBounds_toArray, List.set_cons_zero, List.set_cons_succ])
          refine wpAnyH_take (i := 9) (v := ?v10_) (by simp only [List.getElem?_toArray, List.getElem?_cons_zero, List.getElem?_cons_succ]; rfl) (by kernel_rfl) (by kernel_rfl) (by kernel_rfl) (fun _ _ _ h => h) (Or.inl ⟨by rfl, ?hy10_⟩) hHeld ?rest10_
          case hy10_ => (intro w hSw; (try dsimp only at hSw); go_simp; (try with_reducible rfl))
          (try simp only [Act.put, List.setIfInBounds_toArray, List.set_cons_zero, List.set_cons_succ])
          refine wpAnyH_ready (rs := [10]) (by kernel_rfl) (by simp) ?_
          refine AllReadyH.cons (by simp only [List.getElem?_toArray, List.getElem?_cons_zero, List.getElem?_cons_succ]; rfl) (fun K hK => ?_) AllReadyH.nil
          go_simp
          refine hK.out _ _ ⟨(blk_cell (g := gE) (t := 43) (cs := #[.int .i64 (i0 : Int), .int .i64 (i1 : Int), .int .i64 e2]) (by (with_reducible repeat (first | refine blk_drewN ?_ _ | refine blk_drew ?_ | refine blk_alloc ?_ _)); refine blk_far ?_ NEN _; (with_reducible repeat (first | refine blk_drewN ?_ _ | refine blk_drew ?_ | refine blk_alloc ?_ _)); refine blk_far ?_ NEN _; (with_reducible repeat (first | refine blk_drewN ?_ _ | refine blk_drew ?_ | refine blk_alloc ?_ _)); exact BE.out) 0).trans rfl, (blk_cell (g := gE) (t := 43) (cs := #[.int .i64 (i0 : Int), .int .i64 (i1 : Int), .int .i64 e2]) (by (with_reducible repeat (first | refine blk_drewN ?_ _ | refine blk_drew ?_ | refine blk_alloc ?_ _)); refine blk_far ?_ NEN _; (with_reducible repeat (first | refine blk_drewN ?_ _ | refine blk_drew ?_ | refine blk_alloc ?_ _)); refine blk_far ?_ NEN _; (with_reducible repeat (first | refine blk_drewN ?_ _ | refine blk_drew ?_ | refine blk_alloc ?_ _)); exact BE.out) 1).trans rfl, (blk_cell (g := gE) (t := 43) (cs := #[.int .i64 (i0 : Int), .int .i64 (i1 : Int), .int .i64 e2]) (by (with_reducible repeat (first | refine blk_drewN ?_ _ | refine blk_drew ?_ | refine blk_alloc ?_ _)); refine blk_far ?_ NEN _; (with_reducible repeat (first | refine blk_drewN ?_ _ | refine blk_drew ?_ | refine blk_alloc ?_ _)); refine blk_far ?_ NEN _; (with_reducible repeat (first | refine blk_drewN ?_ _ | refine blk_drew ?_ | refine blk_alloc ?_ _)); exact BE.out) 2).trans rfl⟩ (fun hHeld => ?_)
          clear hK K
          (try simp only [Act.put, List.setIfInBounds_toArray, List.set_cons_zero, List.set_cons_succ])
          refine wpAnyH_done (by kernel_rfl) ?_ _
          refine NoPanic.normal ?_
          go_wp2
          have n1_ : Aside0 (((w'.setCell ⟨gN, i0 * 2, none⟩ (.int .i64 p1)).setCell ⟨gN, i0 * 2 + 1, none⟩ (.int .u64 p2)).heap[gN]? = some (.cells (ledger_Post.rowN M) 68 (0, 0))) := ⟨(by (with_reducible repeat (first | refine blk_drewN ?_ _ | refine blk_drew ?_ | refine blk_alloc ?_ _)); refine blk_put (cs := (ledger_Post.rowN N).setIfInBounds (i0 * 2) (.int .i64 p1)) ?_ (i0 * 2 + 1) _ S1.out; (with_reducible repeat (first | refine blk_drewN ?_ _ | refine blk_drew ?_ | refine blk_alloc ?_ _)); refine blk_put (cs := ledger_Post.rowN N) ?_ (i0 * 2) _ rfl; (with_reducible repeat (first | refine blk_drewN ?_ _ | refine blk_drew ?_ | refine blk_alloc ?_ _)); exact BN.out)⟩
          have n2_ : Aside0 (((w'.setCell ⟨gN, i0 * 2, none⟩ (.int .i64 p1)).setCell ⟨gN, i0 * 2 + 1, none⟩ (.int .u64 p2)).heap[gB]? = some (.cells #[.int .i64 a0_0, .int .i64 a0_1, .int .i64 a0_2, .int .i64 a0_3, .int .i64 a0_4, .int .i64 a0_5, .int .i64 a0_6, .int .i64 a0_7, .int .i64 a0_8, .int .i64 a0_9, .int .i64 a0_10, .int .i64 a0_11] 24 (0, 0))) := ⟨(by (with_reducible repeat (first | refine blk_drewN ?_ _ | refine blk_drew ?_ | refine blk_alloc ?_ _)); refine blk_far ?_ NBN _; (with_reducible repeat (first | refine blk_drewN ?_ _ | refine blk_drew ?_ | refine blk_alloc ?_ _)); refine blk_far ?_ NBN _; (with_reducible repeat (first | refine blk_drewN ?_ _ | refine blk_drew ?_ | refine blk_alloc ?_ _)); exact BB.out)⟩
          have n3_ : Aside0 (((w'.setCell ⟨gN, i0 * 2, none⟩ (.int .i64 p1)).setCell ⟨gN, i0 * 2 + 1, none⟩ (.int .u64 p2)).heap[gR]? = some (.cells #[.int .i64 0, .int .i64 0, .int .i64 0, .int .i64 0, .int .i64 0, .int .i64 0, .int .i64 0, .int .i64 0, .int .i64 0, .int .i64 0, .int .i64 0, .int .i64 0] 24 (0, 0))) := ⟨(by (with_reducible repeat (first | refine blk_drewN ?_ _ | refine blk_drew ?_ | refine blk_alloc ?_ _)); refine blk_far ?_ NRN _; (with_reducible repeat (first | refine blk_drewN ?_ _ | refine blk_drew ?_ | refine blk_alloc ?_ _)); refine blk_far ?_ NRN _; (with_reducible repeat (first | refine blk_drewN ?_ _ | refine blk_drew ?_ | refine blk_alloc ?_ _)); exact BR.out)⟩
          have n4_ : Aside0 (((w'.setCell ⟨gN, i0 * 2, none⟩ (.int .i64 p1)).setCell ⟨gN, i0 * 2 + 1, none⟩ (.int .u64 p2)).heap[gE]? = some (.cells #[.int .i64 (i0 : Int), .int .i64 (i1 : Int), .int .i64 e2] 43 (0, 0))) := ⟨(by (with_reducible repeat (first | refine blk_drewN ?_ _ | refine blk_drew ?_ | refine blk_alloc ?_ _)); refine blk_far ?_ NEN _; (with_reducible repeat (first | refine blk_drewN ?_ _ | refine blk_drew ?_ | refine blk_alloc ?_ _)); refine blk_far ?_ NEN _; (with_reducible repeat (first | refine blk_drewN ?_ _ | refine blk_drew ?_ | refine blk_alloc ?_ _)); exact BE.out)⟩
          have n0_ : Aside0 (Below w.heap.size w ((w'.setCell ⟨gN, i0 * 2, none⟩ (.int .i64 p1)).setCell ⟨gN, i0 * 2 + 1, none⟩ (.int .u64 p2))) := ⟨by repeat (first | (with_reducible first | exact HB.out | apply below_alloc | apply pw_below_drewN | apply below_drew1 | refine below_set ?_ GN.out) | exact HB.out)⟩
          clear BN BB BR BE HB ec0 ec1 ec2 ef0 ef1 ef2 nc0 nc1 nf0 nf1
          generalize ((w'.setCell ⟨gN, i0 * 2, none⟩ (.int .i64 p1)).setCell ⟨gN, i0 * 2 + 1, none⟩ (.int .u64 p2)) = w8 at n0_ n1_ n2_ n3_ n4_ ⊢
          have BN := n1_; have BB := n2_; have BR := n3_; have BE := n4_; have HB := n0_
          clear n0_ n1_ n2_ n3_ n4_
          have nc0 : w8.cell? ⟨gN, i1 * 2, none⟩ = some (.int .i64 v0) := (blk_cell BN.out (i1 * 2)).trans G20.out
          have nc1 : w8.cell? ⟨gN, i1 * 2 + 1, none⟩ = some (.int .u64 v1) := (blk_cell BN.out (i1 * 2 + 1)).trans G21.out
          have nf0 := blk_frozen BN.out (i1 * 2)
          have nf1 := blk_frozen BN.out (i1 * 2 + 1)
          have ec0 : w8.cell? ⟨gE, 0, none⟩ = some (.int .i64 (i0 : Int)) := (blk_cell BE.out 0).trans rfl; have ef0 := blk_frozen BE.out 0; have ec1 : w8.cell? ⟨gE, 1, none⟩ = some (.int .i64 (i1 : Int)) := (blk_cell BE.out 1).trans rfl; have ef1 := blk_frozen BE.out 1; have ec2 : w8.cell? ⟨gE, 2, none⟩ = some (.int .i64 e2) := (blk_cell BE.out 2).trans rfl; have ef2 := blk_frozen BE.out 2
          refine wp_region_noPanic ?_
          refine wp_region_held_drew (S := (fun w' => w'.cell? ⟨gE, 0, none⟩ = some (.int .i64 (i0 : Int)) ∧ w'.cell? ⟨gE, 1, none⟩ = some (.int .i64 (i1 : Int)) ∧ w'.cell? ⟨gE, 2, none⟩ = some (.int .i64 e2))) (by kernel_rfl) ⟨ec0, ec1, ec2⟩ (fun hHeld => ?_)
          refine wpAnyH_take (i := 0) (v := ?v12_) (by simp only [List.getElem?_toArray, List.getElem?_cons_zero, List.getElem?_cons_succ]; rfl) (by kernel_rfl) (by kernel_rfl) (by kernel_rfl) (fun _ _ _ h => h) (Or.inl ⟨by rfl, ?hy12_⟩) hHeld ?rest12_
          case hy12_ => (intro w hSw; (try dsimp only at hSw); go_simp; (try with_reducible rfl))
          (try simp only [Act.put, List.setIfInBounds_toArray, List.set_cons_zero, List.set_cons_succ])
          refine wpAnyH_take (i := 1) (v := ?v13_) (by simp only [List.getElem?_toArray, List.getElem?_cons_zero, List.getElem?_cons_succ]; rfl) (by kernel_rfl) (by kernel_rfl) (by kernel_rfl) (fun _ _ _ h => h) (Or.inl ⟨by rfl, ?hy13_⟩) hHeld ?rest13_
          case hy13_ => (intro w hSw; (try dsimp only at hSw); go_simp; (try with_reducible rfl))
          (try simp only [Act.put, List.setIfInBounds_toArray, List.set_cons_zero, List.set_cons_succ])
          refine wpAnyH_take (i := 2) (v := ?v14_) (by simp only [List.getElem?_toArray, List.getElem?_cons_zero, List.getElem?_cons_succ]; rfl) (by kernel_rfl) (by kernel_rfl) (by kernel_rfl) (fun _ _ _ h => h) (Or.inl ⟨by rfl, ?hy14_⟩) hHeld ?rest14_
          case hy14_ => (intro w hSw; (try dsimp only at hSw); go_simp; (try with_reducible rfl))
          (try simp only [Act.put, List.setIfInBounds_toArray, List.set_cons_zero, List.set_cons_succ])
          refine wpAnyH_take (i := 3) (v := ?v15_) (by simp only [List.getElem?_toArray, List.getElem?_cons_zero, List.getElem?_cons_succ]; rfl) (by kernel_rfl) (by kernel_rfl) (by kernel_rfl) (fun _ _ _ h => h) (Or.inl ⟨by rfl, ?hy15_⟩) hHeld ?rest15_
          case hy15_ => (intro w hSw; (try dsimp only at hSw); go_simp; (try with_reducible rfl))
          (try simp only [Act.put, List.setIfInBounds_toArray, List.set_cons_zero, List.set_cons_succ])
          refine wpAnyH_take (i := 4) (v := ?v16_) (by simp only [List.getElem?_toArray, List.getElem?_cons_zero, List.getElem?_cons_succ]; rfl) (by kernel_rfl) (by kernel_rfl) (by kernel_rfl) (fun _ _ _ h => h) (Or.inl ⟨by rfl, ?hy16_⟩) hHeld ?rest16_
          case hy16_ => (intro w hSw; (try dsimp only at hSw); go_simp; (try with_reducible rfl))
          (try simp only [Act.put, List.setIfInBounds_toArray, List.set_cons_zero, List.set_cons_succ])
          refine wpAnyH_take (i := 6) (v := ?v17_) (by simp only [List.getElem?_toArray, List.getElem?_cons_zero, List.getElem?_cons_succ]; rfl) (by kernel_rfl) (by kernel_rfl) (by kernel_rfl) (fun _ _ _ h => h) (Or.inl ⟨by rfl, ?hy17_⟩) hHeld ?rest17_
          case hy17_ => (intro w hSw; (try dsimp only at hSw); go_simp; (try with_reducible rfl))
          (try simp only [Act.put, List.setIfInBounds_toArray, List.set_cons_zero, List.set_cons_succ])
          refine wpAnyH_take (i := 7) (v := ?v18_) (by simp only [List.getElem?_toArray, List.getElem?_cons_zero, List.getElem?_cons_succ]; rfl) (by kernel_rfl) (by kernel_rfl) (by kernel_rfl) (fun _ _ _ h => h) (Or.inl ⟨by rfl, ?hy18_⟩) hHeld ?rest18_
          case hy18_ => (intro w hSw; (try dsimp only at hSw); go_simp; (try with_reducible rfl))
          (try simp only [Act.put, List.setIfInBounds_toArray, List.set_cons_zero, List.set_cons_succ])
          refine wpAnyH_ready (rs := [5]) (by kernel_rfl) (by simp) ?_
          refine AllReadyH.cons (by simp only [List.getElem?_toArray, List.getElem?_cons_zero, List.getElem?_cons_succ]; rfl) (fun K hK => ?_) AllReadyH.nil
          go_simp
          refine hK.out _ _ ⟨ec0, ec1, ec2⟩ (fun hHeld => ?_)
          clear hK K
          (try simp only [Act.put, List.setIfInBounds_toArray, List.set_cons_zero, List.set_cons_succ])
          refine wpAnyH_ready (rs := [8]) (by kernel_rfl) (by simp) ?_
          refine AllReadyH.cons (by simp only [List.getElem?_toArray, List.getElem?_cons_zero, List.getElem?_cons_succ]; rfl) (fun K hK => ?_) AllReadyH.nil
          go_simp
          (go_at_call 37; refine (ledger_wide_minus.calls v0 v1 e2 p3 p4 _ EP2.out).mono ?_; rintro e w' ⟨rfl, hb⟩; have n0_ := Aside0.mk (below_step (by repeat (first | (with_reducible first | exact HB.out | apply below_alloc | apply pw_below_drewN | apply below_drew1) | exact HB.out)) hb); have n1_ := Aside0.mk (blk_below (o := .cells #[.int .i64 (i0 : Int), .int .i64 (i1 : Int), .int .i64 e2] 43 (0, 0)) (by (with_reducible repeat (first | refine blk_drewN ?_ _ | refine blk_drew ?_ | refine blk_alloc ?_ _)); exact BE.out) hb); have n2_ := Aside0.mk (blk_below (o := .cells #[.int .i64 a0_0, .int .i64 a0_1, .int .i64 a0_2, .int .i64 a0_3, .int .i64 a0_4, .int .i64 a0_5, .int .i64 a0_6, .int .i64 a0_7, .int .i64 a0_8, .int .i64 a0_9, .int .i64 a0_10, .int .i64 a0_11] 24 (0, 0)) (by (with_reducible repeat (first | refine blk_drewN ?_ _ | refine blk_drew ?_ | refine blk_alloc ?_ _)); exact BB.out) hb); have n3_ := Aside0.mk (blk_below (o := .cells #[.int .i64 0, .int .i64 0, .int .i64 0, .int .i64 0, .int .i64 0, .int .i64 0, .int .i64 0, .int .i64 0, .int .i64 0, .int .i64 0, .int .i64 0, .int .i64 0] 24 (0, 0)) (by (with_reducible repeat (first | refine blk_drewN ?_ _ | refine blk_drew ?_ | refine blk_alloc ?_ _)); exact BR.out) hb); have n4_ := Aside0.mk (blk_below (o := .cells (ledger_Post.rowN M) 68 (0, 0)) (by (with_reducible repeat (first | refine blk_drewN ?_ _ | refine blk_drew ?_ | refine blk_alloc ?_ _)); exact BN.out) hb); clear HB BE BB BR BN hb ec0 ec1 ec2 ef0 ef1 ef2 nc0 nc1 nf0 nf1; have HB := n0_; have BE := n1_; have BB := n2_; have BR := n3_; have BN := n4_; clear n0_ n1_ n2_ n3_ n4_; have ec0 : w'.cell? ⟨gE, 0, none⟩ = some (.int .i64 (i0 : Int)) := (blk_cell BE.out 0).trans rfl; have ef0 := blk_frozen BE.out 0; have ec1 : w'.cell? ⟨gE, 1, none⟩ = some (.int .i64 (i1 : Int)) := (blk_cell BE.out 1).trans rfl; have ef1 := blk_frozen BE.out 1; have ec2 : w'.cell? ⟨gE, 2, none⟩ = some (.int .i64 e2) := (blk_cell BE.out 2).trans rfl; have ef2 := blk_frozen BE.out 2; have nc0 : w'.cell? ⟨gN, i1 * 2, none⟩ = some (.int .i64 v0) := (blk_cell BN.out (i1 * 2)).trans G20.out; have nc1 : w'.cell? ⟨gN, i1 * 2 + 1, none⟩ = some (.int .u64 v1) := (blk_cell BN.out (i1 * 2 + 1)).trans G21.out; have nf0 := blk_frozen BN.out (i1 * 2); have nf1 := blk_frozen BN.out (i1 * 2 + 1))
          refine hK.out _ _ ⟨ec0, ec1, ec2⟩ (fun hHeld => ?_)
          clear hK K
          (try simp only [Act.put, List.setIfInBounds_toArray, List.set_cons_zero, List.set_cons_succ])
          refine wpAnyH_take (i := 9) (v := ?v21_) (by simp only [List.getElem?_toArray, List.getElem?_cons_zero, List.getElem?_cons_succ]; rfl) (by kernel_rfl) (by kernel_rfl) (by kernel_rfl) (fun _ _ _ h => h) (Or.inl ⟨by rfl, ?hy21_⟩) hHeld ?rest21_
          case hy21_ => (intro w hSw; (try dsimp only at hSw); go_simp; (try with_reducible rfl))
          (try simp only [Act.put, List.setIfInBounds_toArray, List.set_cons_zero, List.set_cons_succ])
          refine wpAnyH_ready (rs := [10]) (by kernel_rfl) (by simp) ?_
          refine AllReadyH.cons (by simp only [List.getElem?_toArray, List.getElem?_cons_zero, List.getElem?_cons_succ]; rfl) (fun K hK => ?_) AllReadyH.nil
          go_simp
          refine hK.out _ _ ⟨(blk_cell (g := gE) (t := 43) (cs := #[.int .i64 (i0 : Int), .int .i64 (i1 : Int), .int .i64 e2]) (by (with_reducible repeat (first | refine blk_drewN ?_ _ | refine blk_drew ?_ | refine blk_alloc ?_ _)); refine blk_far ?_ NEN _; (with_reducible repeat (first | refine blk_drewN ?_ _ | refine blk_drew ?_ | refine blk_alloc ?_ _)); refine blk_far ?_ NEN _; (with_reducible repeat (first | refine blk_drewN ?_ _ | refine blk_drew ?_ | refine blk_alloc ?_ _)); exact BE.out) 0).trans rfl, (blk_cell (g := gE) (t := 43) (cs := #[.int .i64 (i0 : Int), .int .i64 (i1 : Int), .int .i64 e2]) (by (with_reducible repeat (first | refine blk_drewN ?_ _ | refine blk_drew ?_ | refine blk_alloc ?_ _)); refine blk_far ?_ NEN _; (with_reducible repeat (first | refine blk_drewN ?_ _ | refine blk_drew ?_ | refine blk_alloc ?_ _)); refine blk_far ?_ NEN _; (with_reducible repeat (first | refine blk_drewN ?_ _ | refine blk_drew ?_ | refine blk_alloc ?_ _)); exact BE.out) 1).trans rfl, (blk_cell (g := gE) (t := 43) (cs := #[.int .i64 (i0 : Int), .int .i64 (i1 : Int), .int .i64 e2]) (by (with_reducible repeat (first | refine blk_drewN ?_ _ | refine blk_drew ?_ | refine blk_alloc ?_ _)); refine blk_far ?_ NEN _; (with_reducible repeat (first | refine blk_drewN ?_ _ | refine blk_drew ?_ | refine blk_alloc ?_ _)); refine blk_far ?_ NEN _; (with_reducible repeat (first | refine blk_drewN ?_ _ | refine blk_drew ?_ | refine blk_alloc ?_ _)); exact BE.out) 2).trans rfl⟩ (fun hHeld => ?_)
          clear hK K
          (try simp only [Act.put, List.setIfInBounds_toArray, List.set_cons_zero, List.set_cons_succ])
          refine wpAnyH_done (by kernel_rfl) ?_ _
          refine NoPanic.normal ?_
          go_wp2
          go_roundw
          case rel => (repeat apply Exists.intro); exact ⟨⟨n + 1, HLT.out, by go_num, ⟨by intro x hx; rw [List.take_succ_eq_append_getElem HLT.out] at hx; rcases List.mem_append.1 hx with hx | hx; exact HG.out x hx; rw [List.mem_singleton.1 hx, HEE.out]; exact HER.out.symm⟩, ⟨(by (with_reducible repeat (first | refine blk_drewN ?_ _ | refine blk_drew ?_ | refine blk_alloc ?_ _)); refine blk_far ?_ NBN _; (with_reducible repeat (first | refine blk_drewN ?_ _ | refine blk_drew ?_ | refine blk_alloc ?_ _)); refine blk_far ?_ NBN _; (with_reducible repeat (first | refine blk_drewN ?_ _ | refine blk_drew ?_ | refine blk_alloc ?_ _)); exact BB.out)⟩, ⟨(by (with_reducible repeat (first | refine blk_drewN ?_ _ | refine blk_drew ?_ | refine blk_alloc ?_ _)); refine blk_far ?_ NRN _; (with_reducible repeat (first | refine blk_drewN ?_ _ | refine blk_drew ?_ | refine blk_alloc ?_ _)); refine blk_far ?_ NRN _; (with_reducible repeat (first | refine blk_drewN ?_ _ | refine blk_drew ?_ | refine blk_alloc ?_ _)); exact BR.out)⟩, ⟨(by (with_reducible repeat (first | refine blk_drewN ?_ _ | refine blk_drew ?_ | refine blk_alloc ?_ _)); refine blk_put (cs := (ledger_Post.rowN M).setIfInBounds (i1 * 2) (.int .i64 p3)) ?_ (i1 * 2 + 1) _ S2.out; (with_reducible repeat (first | refine blk_drewN ?_ _ | refine blk_drew ?_ | refine blk_alloc ?_ _)); refine blk_put (cs := ledger_Post.rowN M) ?_ (i1 * 2) _ rfl; (with_reducible repeat (first | refine blk_drewN ?_ _ | refine blk_drew ?_ | refine blk_alloc ?_ _)); exact BN.out)⟩, ⟨by repeat (first | (with_reducible first | exact HB.out | apply below_alloc | apply pw_below_drewN | apply below_drew1 | refine below_set ?_ GN.out) | exact HB.out)⟩⟩, rfl⟩
          case measure => first | (simp [intOf]; done) | (simp [intOf]; omega)
      have hnl : n = l0.length := by omega
      subst hnl
      clear hlt hn
      have HGA : Aside0 (∀ e ∈ l0, ledger_Post.err e = 0) := ⟨by have h := HG.out; rwa [List.take_length] at h⟩
      obtain ⟨N, hN⟩ : ∃ N, N = ledger_Post.run [a0_0, a0_1, a0_2, a0_3, a0_4, a0_5, a0_6, a0_7, a0_8, a0_9, a0_10, a0_11] l0 l0.length := ⟨_, rfl⟩
      have hsN := ledger_Post.stands_run [a0_0, a0_1, a0_2, a0_3, a0_4, a0_5, a0_6, a0_7, a0_8, a0_9, a0_10, a0_11] l0 HX.out HE.out HM.out l0.length (Nat.le_refl _) HG.out
      rw [← hN] at BN hsN
      have HN := Aside0.mk hN
      have HLN := Aside0.mk hsN.1
      clear hN HG hsN
      go_wp2_with (first | ((with_reducible refine gate_dst (N := 12) rfl ?_); refine box_event ?hg (N := 12) ?hd (cs := #[.int .i64 0, .int .i64 0, .int .i64 0, .int .i64 0, .int .i64 0, .int .i64 0, .int .i64 0, .int .i64 0, .int .i64 0, .int .i64 0, .int .i64 0, .int .i64 0]) (t := 24) ?hr ?_; (case hd => rfl); (case hg => rfl); (case hr => first | (go_simp; done) | (go_simp; rfl)); intro gO hg w6 hbox hb; have n0_ := Aside0.mk (below_step (by repeat (first | (with_reducible first | exact HB.out | apply below_alloc | apply pw_below_drewN | apply below_drew1) | exact HB.out)) hb); have GO := Aside0.mk (show w.heap.size ≤ gO from by rw [hg]; exact below_size (by repeat (first | (with_reducible first | exact HB.out | apply below_alloc | apply pw_below_drewN | apply below_drew1) | exact HB.out))); have NBO : gB ≠ gO := (by rw [hg]; exact Nat.ne_of_lt (blk_lt (g := gB) (o := .cells #[.int .i64 a0_0, .int .i64 a0_1, .int .i64 a0_2, .int .i64 a0_3, .int .i64 a0_4, .int .i64 a0_5, .int .i64 a0_6, .int .i64 a0_7, .int .i64 a0_8, .int .i64 a0_9, .int .i64 a0_10, .int .i64 a0_11] 24 (0, 0)) (by (with_reducible repeat (first | refine blk_drewN ?_ _ | refine blk_drew ?_ | refine blk_alloc ?_ _)); exact BB.out))); have NOB := NBO.symm; have n_ := Aside0.mk (blk_below (g := gB) (o := .cells #[.int .i64 a0_0, .int .i64 a0_1, .int .i64 a0_2, .int .i64 a0_3, .int .i64 a0_4, .int .i64 a0_5, .int .i64 a0_6, .int .i64 a0_7, .int .i64 a0_8, .int .i64 a0_9, .int .i64 a0_10, .int .i64 a0_11] 24 (0, 0)) (by (with_reducible repeat (first | refine blk_drewN ?_ _ | refine blk_drew ?_ | refine blk_alloc ?_ _)); exact BB.out) hb); clear BB; have BB := n_; clear n_; have NRO : gR ≠ gO := (by rw [hg]; exact Nat.ne_of_lt (blk_lt (g := gR) (o := .cells #[.int .i64 0, .int .i64 0, .int .i64 0, .int .i64 0, .int .i64 0, .int .i64 0, .int .i64 0, .int .i64 0, .int .i64 0, .int .i64 0, .int .i64 0, .int .i64 0] 24 (0, 0)) (by (with_reducible repeat (first | refine blk_drewN ?_ _ | refine blk_drew ?_ | refine blk_alloc ?_ _)); exact BR.out))); have NOR := NRO.symm; have n_ := Aside0.mk (blk_below (g := gR) (o := .cells #[.int .i64 0, .int .i64 0, .int .i64 0, .int .i64 0, .int .i64 0, .int .i64 0, .int .i64 0, .int .i64 0, .int .i64 0, .int .i64 0, .int .i64 0, .int .i64 0] 24 (0, 0)) (by (with_reducible repeat (first | refine blk_drewN ?_ _ | refine blk_drew ?_ | refine blk_alloc ?_ _)); exact BR.out) hb); clear BR; have BR := n_; clear n_; have NNO : gN ≠ gO := (by rw [hg]; exact Nat.ne_of_lt (blk_lt (g := gN) (o := .cells (ledger_Post.rowN N) 68 (0, 0)) (by (with_reducible repeat (first | refine blk_drewN ?_ _ | refine blk_drew ?_ | refine blk_alloc ?_ _)); exact BN.out))); have NON := NNO.symm; have n_ := Aside0.mk (blk_below (g := gN) (o := .cells (ledger_Post.rowN N) 68 (0, 0)) (by (with_reducible repeat (first | refine blk_drewN ?_ _ | refine blk_drew ?_ | refine blk_alloc ?_ _)); exact BN.out) hb); clear BN; have BN := n_; clear n_; clear HB; have HB := n0_; clear n0_; have BO := Aside0.mk hbox; clear hbox hb hg) | ((with_reducible refine gate_dst (N := 64) rfl ?_); refine wpList_load_row rfl 68 (.tmp 6) rfl gN rfl 68 (ledger_Post.rowN N) (0, 0) _ ?hbk hu2 rfl ?hsz ?_; (case hbk => (with_reducible repeat (first | refine blk_drewN ?_ _ | refine blk_drew ?_ | refine blk_alloc ?_ _)); exact BN.out); (case hsz => (rw [ledger_Post.rowN_size HLN.out]; kernel_rfl))))
      clear BN
      go_loopw [65] (fun i wr => ∃ n : Nat, n ≤ 12 ∧ i = .int .i64 n ∧ Aside0 (∀ j, j < n → ledger_Post.fits (N.getD j (0, 0)) = true) ∧ Aside0 (wr.heap[gB]? = some (.cells #[.int .i64 a0_0, .int .i64 a0_1, .int .i64 a0_2, .int .i64 a0_3, .int .i64 a0_4, .int .i64 a0_5, .int .i64 a0_6, .int .i64 a0_7, .int .i64 a0_8, .int .i64 a0_9, .int .i64 a0_10, .int .i64 a0_11] 24 (0, 0))) ∧ Aside0 (wr.heap[gR]? = some (.cells #[.int .i64 0, .int .i64 0, .int .i64 0, .int .i64 0, .int .i64 0, .int .i64 0, .int .i64 0, .int .i64 0, .int .i64 0, .int .i64 0, .int .i64 0, .int .i64 0] 24 (0, 0))) ∧ Aside0 (wr.heap[gO]? = some (.cells (ledger_Post.rowI (ledger_Post.outs N n)) 24 (0, 0))) ∧ Aside0 (Below w.heap.size w wr)) (fun i _ => 12 - (intOf i).toNat)
      case atStart => exact ⟨0, by omega, rfl, ⟨fun j hj => absurd hj (Nat.not_lt_zero j)⟩, BB, BR, ⟨by have h := BO.out; exact h⟩, HB⟩
      case round =>
        clear BB BR BO HB
        obtain ⟨n, hn, rfl, HF, BB, BR, BO, HB⟩ := hrel
        by_cases hlt : n < 12
        · have hix := ledger_Post.idxR N HLN.out n hlt
          have q0 := eq_true (show (0 : Int) ≤ (n : Int) by omega)
          have q1 := eq_true (show (n : Int) < 12 by omega)
          have q2 := eq_true (show n < 12 by omega)
          obtain ⟨⟨h, l⟩, hh⟩ : ∃ p, p = N.getD n (0, 0) := ⟨_, rfl⟩
          rw [← hh] at hix
          dsimp only at hix
          have HH := Aside0.mk hh
          obtain ⟨x, hx⟩ : ∃ x, x = wrap64 l := ⟨_, rfl⟩
          obtain ⟨bo, hbo⟩ : ∃ b, b = (h == wrap64 l / 9223372036854775808) := ⟨_, rfl⟩
          have hnf : ledger_wide_narrow.f h l = some (x, bo) := by rw [hx, hbo]; rfl
          have hfit : ledger_Post.fits (h, l) = (bo && x != -9223372036854775808) := by rw [hx, hbo]; rfl
          have NF := Aside0.mk hnf
          have HFT := Aside0.mk hfit
          have HXV := Aside0.mk hx
          clear hx hbo hnf hfit hh
          cases bo
          case false =>
            have hs := ledger_Post.end_range (b := [a0_0, a0_1, a0_2, a0_3, a0_4, a0_5, a0_6, a0_7, a0_8, a0_9, a0_10, a0_11]) HX.out HE.out HM.out HGA.out hlt (by rw [← HN.out, ← HH.out, HFT.out]; rfl)
            have hres := RES.out
            rw [hs] at hres
            have hres2 : (a0_0, a0_1, a0_2, a0_3, a0_4, a0_5, a0_6, a0_7, a0_8, a0_9, a0_10, a0_11, 3) = (r0, r1, r2, r3, r4, r5, r6, r7, r8, r9, r10, r11, r12) := hres
            have HRES := Aside0.mk hres2
            clear hs hres hres2 RES
            go_wp2_with (first | ((with_reducible refine gate_dst (N := 14) rfl ?_); refine box_event ?hg (N := 14) ?hd (cs := #[.int .i64 0, .int .u64 0]) (t := 67) ?hr ?_; (case hd => rfl); (case hg => rfl); (case hr => first | (go_simp; done) | (go_simp; rfl)); intro gW hg w7 hbox hb; have n0_ := Aside0.mk (below_step (by repeat (first | (with_reducible first | exact HB.out | apply below_alloc | apply pw_below_drewN | apply below_drew1) | exact HB.out)) hb); have GW := Aside0.mk (show w.heap.size ≤ gW from by rw [hg]; exact below_size (by repeat (first | (with_reducible first | exact HB.out | apply below_alloc | apply pw_below_drewN | apply below_drew1) | exact HB.out))); have NBW : gB ≠ gW := (by rw [hg]; exact Nat.ne_of_lt (blk_lt (g := gB) (o := .cells #[.int .i64 a0_0, .int .i64 a0_1, .int .i64 a0_2, .int .i64 a0_3, .int .i64 a0_4, .int .i64 a0_5, .int .i64 a0_6, .int .i64 a0_7, .int .i64 a0_8, .int .i64 a0_9, .int .i64 a0_10, .int .i64 a0_11] 24 (0, 0)) (by (with_reducible repeat (first | refine blk_drewN ?_ _ | refine blk_drew ?_ | refine blk_alloc ?_ _)); exact BB.out))); have NWB := NBW.symm; have n_ := Aside0.mk (blk_below (g := gB) (o := .cells #[.int .i64 a0_0, .int .i64 a0_1, .int .i64 a0_2, .int .i64 a0_3, .int .i64 a0_4, .int .i64 a0_5, .int .i64 a0_6, .int .i64 a0_7, .int .i64 a0_8, .int .i64 a0_9, .int .i64 a0_10, .int .i64 a0_11] 24 (0, 0)) (by (with_reducible repeat (first | refine blk_drewN ?_ _ | refine blk_drew ?_ | refine blk_alloc ?_ _)); exact BB.out) hb); clear BB; have BB := n_; clear n_; have NRW : gR ≠ gW := (by rw [hg]; exact Nat.ne_of_lt (blk_lt (g := gR) (o := .cells #[.int .i64 0, .int .i64 0, .int .i64 0, .int .i64 0, .int .i64 0, .int .i64 0, .int .i64 0, .int .i64 0, .int .i64 0, .int .i64 0, .int .i64 0, .int .i64 0] 24 (0, 0)) (by (with_reducible repeat (first | refine blk_drewN ?_ _ | refine blk_drew ?_ | refine blk_alloc ?_ _)); exact BR.out))); have NWR := NRW.symm; have n_ := Aside0.mk (blk_below (g := gR) (o := .cells #[.int .i64 0, .int .i64 0, .int .i64 0, .int .i64 0, .int .i64 0, .int .i64 0, .int .i64 0, .int .i64 0, .int .i64 0, .int .i64 0, .int .i64 0, .int .i64 0] 24 (0, 0)) (by (with_reducible repeat (first | refine blk_drewN ?_ _ | refine blk_drew ?_ | refine blk_alloc ?_ _)); exact BR.out) hb); clear BR; have BR := n_; clear n_; have NOW : gO ≠ gW := (by rw [hg]; exact Nat.ne_of_lt (blk_lt (g := gO) (o := .cells (ledger_Post.rowI (ledger_Post.outs N n)) 24 (0, 0)) (by (with_reducible repeat (first | refine blk_drewN ?_ _ | refine blk_drew ?_ | refine blk_alloc ?_ _)); exact BO.out))); have NWO := NOW.symm; have n_ := Aside0.mk (blk_below (g := gO) (o := .cells (ledger_Post.rowI (ledger_Post.outs N n)) 24 (0, 0)) (by (with_reducible repeat (first | refine blk_drewN ?_ _ | refine blk_drew ?_ | refine blk_alloc ?_ _)); exact BO.out) hb); clear BO; have BO := n_; clear n_; clear HB; have HB := n0_; clear n0_; have BW := Aside0.mk hbox; clear hbox hb hg) | ((with_reducible refine gate_store rfl ?_); refine Hand.store_row_event rfl 67 (.tmp 14) (.tmp 68) rfl gW #[.int .i64 h, .int .u64 l] rfl rfl 67 #[.int .i64 0, .int .u64 0] ?hbk (by kernel_rfl) (by kernel_rfl) (by kernel_rfl) ?_; (case hbk => (with_reducible repeat (first | refine blk_drewN ?_ _ | refine blk_drew ?_ | refine blk_alloc ?_ _)); exact BW.out); intro w9 hnew_ hfar_ hbel_; have m_ := Aside0.mk (hbel_ w GW.out (by repeat (first | (with_reducible first | exact HB.out | apply below_alloc | apply pw_below_drewN | apply below_drew1) | exact HB.out))); have n0_ := Aside0.mk ((hfar_ gB NBW).trans (by (with_reducible repeat (first | refine blk_drewN ?_ _ | refine blk_drew ?_ | refine blk_alloc ?_ _)); exact BB.out)); have n1_ := Aside0.mk ((hfar_ gR NRW).trans (by (with_reducible repeat (first | refine blk_drewN ?_ _ | refine blk_drew ?_ | refine blk_alloc ?_ _)); exact BR.out)); have n2_ := Aside0.mk ((hfar_ gO NOW).trans (by (with_reducible repeat (first | refine blk_drewN ?_ _ | refine blk_drew ?_ | refine blk_alloc ?_ _)); exact BO.out)); clear BW HB BB BR BO; have HB := m_; have BW := Aside0.mk hnew_; have BB := n0_; clear n0_; have BR := n1_; clear n1_; have BO := n2_; clear n2_; clear m_ hnew_ hfar_ hbel_) | ((with_reducible refine gate_dst (N := 70) rfl ?_); refine wpList_load_row rfl 67 (.tmp 14) rfl gW rfl 67 #[.int .i64 h, .int .u64 l] (0, 0) _ ?hbk hu4 rfl ?hsz ?_; (case hbk => (with_reducible repeat (first | refine blk_drewN ?_ _ | refine blk_drew ?_ | refine blk_alloc ?_ _)); exact BW.out); (case hsz => kernel_rfl)) | (go_at_call 38; refine (ledger_wide_narrow.calls h l x false _ NF.out).mono ?_; rintro e w' ⟨rfl, hb⟩; have n0_ := Aside0.mk (below_step (by repeat (first | (with_reducible first | exact HB.out | apply below_alloc | apply pw_below_drewN | apply below_drew1) | exact HB.out)) hb); have n2_ := Aside0.mk (blk_below (o := .cells #[.int .i64 a0_0, .int .i64 a0_1, .int .i64 a0_2, .int .i64 a0_3, .int .i64 a0_4, .int .i64 a0_5, .int .i64 a0_6, .int .i64 a0_7, .int .i64 a0_8, .int .i64 a0_9, .int .i64 a0_10, .int .i64 a0_11] 24 (0, 0)) (by (with_reducible repeat (first | refine blk_drewN ?_ _ | refine blk_drew ?_ | refine blk_alloc ?_ _)); exact BB.out) hb); have n3_ := Aside0.mk (blk_below (o := .cells #[.int .i64 0, .int .i64 0, .int .i64 0, .int .i64 0, .int .i64 0, .int .i64 0, .int .i64 0, .int .i64 0, .int .i64 0, .int .i64 0, .int .i64 0, .int .i64 0] 24 (0, 0)) (by (with_reducible repeat (first | refine blk_drewN ?_ _ | refine blk_drew ?_ | refine blk_alloc ?_ _)); exact BR.out) hb); have n4_ := Aside0.mk (blk_below (o := .cells (ledger_Post.rowI (ledger_Post.outs N n)) 24 (0, 0)) (by (with_reducible repeat (first | refine blk_drewN ?_ _ | refine blk_drew ?_ | refine blk_alloc ?_ _)); exact BO.out) hb); clear HB BB BR BO BW hb; have HB := n0_; have BB := n2_; have BR := n3_; have BO := n4_; clear n0_ n2_ n3_ n4_) | ((with_reducible refine gate_dst (N := 80) rfl ?_); refine wpList_load_row rfl 24 (.tmp 2) rfl gB rfl 24 #[.int .i64 a0_0, .int .i64 a0_1, .int .i64 a0_2, .int .i64 a0_3, .int .i64 a0_4, .int .i64 a0_5, .int .i64 a0_6, .int .i64 a0_7, .int .i64 a0_8, .int .i64 a0_9, .int .i64 a0_10, .int .i64 a0_11] (0, 0) _ ?hbk hu3 rfl ?hsz ?_; (case hbk => (with_reducible repeat (first | refine blk_drewN ?_ _ | refine blk_drew ?_ | refine blk_alloc ?_ _)); exact BB.out); (case hsz => kernel_rfl)) | ((with_reducible refine gate_store rfl ?_); refine Hand.store_row_event rfl 24 (.tmp 4) (.tmp 80) rfl gR #[.int .i64 a0_0, .int .i64 a0_1, .int .i64 a0_2, .int .i64 a0_3, .int .i64 a0_4, .int .i64 a0_5, .int .i64 a0_6, .int .i64 a0_7, .int .i64 a0_8, .int .i64 a0_9, .int .i64 a0_10, .int .i64 a0_11] rfl rfl 24 #[.int .i64 0, .int .i64 0, .int .i64 0, .int .i64 0, .int .i64 0, .int .i64 0, .int .i64 0, .int .i64 0, .int .i64 0, .int .i64 0, .int .i64 0, .int .i64 0] ?hbk (by kernel_rfl) (by kernel_rfl) (by kernel_rfl) ?_; (case hbk => (with_reducible repeat (first | refine blk_drewN ?_ _ | refine blk_drew ?_ | refine blk_alloc ?_ _)); exact BR.out); intro w9 hnew_ hfar_ hbel_; have m_ := Aside0.mk (hbel_ w GR.out (by repeat (first | (with_reducible first | exact HB.out | apply below_alloc | apply pw_below_drewN | apply below_drew1) | exact HB.out))); clear BR HB ; have HB := m_; have BR := Aside0.mk hnew_; clear m_ hnew_ hfar_ hbel_))
            refine bodyPost_ret (results_ct rfl _ _ gR 24 #[.int .i64 a0_0, .int .i64 a0_1, .int .i64 a0_2, .int .i64 a0_3, .int .i64 a0_4, .int .i64 a0_5, .int .i64 a0_6, .int .i64 a0_7, .int .i64 a0_8, .int .i64 a0_9, .int .i64 a0_10, .int .i64 a0_11] (0, 0) _ rfl (by (with_reducible repeat (first | refine blk_drewN ?_ _ | refine blk_drew ?_ | refine blk_alloc ?_ _)); exact BR.out) hu3 rfl (by kernel_rfl)) rfl ?_
            have hres2 := HRES.out
            simp only [Prod.mk.injEq] at hres2
            obtain ⟨rfl, rfl, rfl, rfl, rfl, rfl, rfl, rfl, rfl, rfl, rfl, rfl, rfl⟩ := hres2
            exact ⟨rfl, by repeat (first | (with_reducible first | exact HB.out | apply below_alloc | apply pw_below_drewN | apply below_drew1) | exact HB.out)⟩
          case true =>
            by_cases hmin : x = -9223372036854775808
            · have d0 : (x == -9223372036854775808) = true := beq_iff_eq.mpr hmin
              have hs := ledger_Post.end_range (b := [a0_0, a0_1, a0_2, a0_3, a0_4, a0_5, a0_6, a0_7, a0_8, a0_9, a0_10, a0_11]) HX.out HE.out HM.out HGA.out hlt (by rw [← HN.out, ← HH.out, HFT.out]; rw [hmin]; rfl)
              have hres := RES.out
              rw [hs] at hres
              have hres2 : (a0_0, a0_1, a0_2, a0_3, a0_4, a0_5, a0_6, a0_7, a0_8, a0_9, a0_10, a0_11, 3) = (r0, r1, r2, r3, r4, r5, r6, r7, r8, r9, r10, r11, r12) := hres
              have HRES := Aside0.mk hres2
              clear hs hres hres2 RES
              go_wp2_with (first | ((with_reducible refine gate_dst (N := 14) rfl ?_); refine box_event ?hg (N := 14) ?hd (cs := #[.int .i64 0, .int .u64 0]) (t := 67) ?hr ?_; (case hd => rfl); (case hg => rfl); (case hr => first | (go_simp; done) | (go_simp; rfl)); intro gW hg w7 hbox hb; have n0_ := Aside0.mk (below_step (by repeat (first | (with_reducible first | exact HB.out | apply below_alloc | apply pw_below_drewN | apply below_drew1) | exact HB.out)) hb); have GW := Aside0.mk (show w.heap.size ≤ gW from by rw [hg]; exact below_size (by repeat (first | (with_reducible first | exact HB.out | apply below_alloc | apply pw_below_drewN | apply below_drew1) | exact HB.out))); have NBW : gB ≠ gW := (by rw [hg]; exact Nat.ne_of_lt (blk_lt (g := gB) (o := .cells #[.int .i64 a0_0, .int .i64 a0_1, .int .i64 a0_2, .int .i64 a0_3, .int .i64 a0_4, .int .i64 a0_5, .int .i64 a0_6, .int .i64 a0_7, .int .i64 a0_8, .int .i64 a0_9, .int .i64 a0_10, .int .i64 a0_11] 24 (0, 0)) (by (with_reducible repeat (first | refine blk_drewN ?_ _ | refine blk_drew ?_ | refine blk_alloc ?_ _)); exact BB.out))); have NWB := NBW.symm; have n_ := Aside0.mk (blk_below (g := gB) (o := .cells #[.int .i64 a0_0, .int .i64 a0_1, .int .i64 a0_2, .int .i64 a0_3, .int .i64 a0_4, .int .i64 a0_5, .int .i64 a0_6, .int .i64 a0_7, .int .i64 a0_8, .int .i64 a0_9, .int .i64 a0_10, .int .i64 a0_11] 24 (0, 0)) (by (with_reducible repeat (first | refine blk_drewN ?_ _ | refine blk_drew ?_ | refine blk_alloc ?_ _)); exact BB.out) hb); clear BB; have BB := n_; clear n_; have NRW : gR ≠ gW := (by rw [hg]; exact Nat.ne_of_lt (blk_lt (g := gR) (o := .cells #[.int .i64 0, .int .i64 0, .int .i64 0, .int .i64 0, .int .i64 0, .int .i64 0, .int .i64 0, .int .i64 0, .int .i64 0, .int .i64 0, .int .i64 0, .int .i64 0] 24 (0, 0)) (by (with_reducible repeat (first | refine blk_drewN ?_ _ | refine blk_drew ?_ | refine blk_alloc ?_ _)); exact BR.out))); have NWR := NRW.symm; have n_ := Aside0.mk (blk_below (g := gR) (o := .cells #[.int .i64 0, .int .i64 0, .int .i64 0, .int .i64 0, .int .i64 0, .int .i64 0, .int .i64 0, .int .i64 0, .int .i64 0, .int .i64 0, .int .i64 0, .int .i64 0] 24 (0, 0)) (by (with_reducible repeat (first | refine blk_drewN ?_ _ | refine blk_drew ?_ | refine blk_alloc ?_ _)); exact BR.out) hb); clear BR; have BR := n_; clear n_; have NOW : gO ≠ gW := (by rw [hg]; exact Nat.ne_of_lt (blk_lt (g := gO) (o := .cells (ledger_Post.rowI (ledger_Post.outs N n)) 24 (0, 0)) (by (with_reducible repeat (first | refine blk_drewN ?_ _ | refine blk_drew ?_ | refine blk_alloc ?_ _)); exact BO.out))); have NWO := NOW.symm; have n_ := Aside0.mk (blk_below (g := gO) (o := .cells (ledger_Post.rowI (ledger_Post.outs N n)) 24 (0, 0)) (by (with_reducible repeat (first | refine blk_drewN ?_ _ | refine blk_drew ?_ | refine blk_alloc ?_ _)); exact BO.out) hb); clear BO; have BO := n_; clear n_; clear HB; have HB := n0_; clear n0_; have BW := Aside0.mk hbox; clear hbox hb hg) | ((with_reducible refine gate_store rfl ?_); refine Hand.store_row_event rfl 67 (.tmp 14) (.tmp 68) rfl gW #[.int .i64 h, .int .u64 l] rfl rfl 67 #[.int .i64 0, .int .u64 0] ?hbk (by kernel_rfl) (by kernel_rfl) (by kernel_rfl) ?_; (case hbk => (with_reducible repeat (first | refine blk_drewN ?_ _ | refine blk_drew ?_ | refine blk_alloc ?_ _)); exact BW.out); intro w9 hnew_ hfar_ hbel_; have m_ := Aside0.mk (hbel_ w GW.out (by repeat (first | (with_reducible first | exact HB.out | apply below_alloc | apply pw_below_drewN | apply below_drew1) | exact HB.out))); have n0_ := Aside0.mk ((hfar_ gB NBW).trans (by (with_reducible repeat (first | refine blk_drewN ?_ _ | refine blk_drew ?_ | refine blk_alloc ?_ _)); exact BB.out)); have n1_ := Aside0.mk ((hfar_ gR NRW).trans (by (with_reducible repeat (first | refine blk_drewN ?_ _ | refine blk_drew ?_ | refine blk_alloc ?_ _)); exact BR.out)); have n2_ := Aside0.mk ((hfar_ gO NOW).trans (by (with_reducible repeat (first | refine blk_drewN ?_ _ | refine blk_drew ?_ | refine blk_alloc ?_ _)); exact BO.out)); clear BW HB BB BR BO; have HB := m_; have BW := Aside0.mk hnew_; have BB := n0_; clear n0_; have BR := n1_; clear n1_; have BO := n2_; clear n2_; clear m_ hnew_ hfar_ hbel_) | ((with_reducible refine gate_dst (N := 70) rfl ?_); refine wpList_load_row rfl 67 (.tmp 14) rfl gW rfl 67 #[.int .i64 h, .int .u64 l] (0, 0) _ ?hbk hu4 rfl ?hsz ?_; (case hbk => (with_reducible repeat (first | refine blk_drewN ?_ _ | refine blk_drew ?_ | refine blk_alloc ?_ _)); exact BW.out); (case hsz => kernel_rfl)) | (go_at_call 38; refine (ledger_wide_narrow.calls h l x true _ NF.out).mono ?_; rintro e w' ⟨rfl, hb⟩; have n0_ := Aside0.mk (below_step (by repeat (first | (with_reducible first | exact HB.out | apply below_alloc | apply pw_below_drewN | apply below_drew1) | exact HB.out)) hb); have n2_ := Aside0.mk (blk_below (o := .cells #[.int .i64 a0_0, .int .i64 a0_1, .int .i64 a0_2, .int .i64 a0_3, .int .i64 a0_4, .int .i64 a0_5, .int .i64 a0_6, .int .i64 a0_7, .int .i64 a0_8, .int .i64 a0_9, .int .i64 a0_10, .int .i64 a0_11] 24 (0, 0)) (by (with_reducible repeat (first | refine blk_drewN ?_ _ | refine blk_drew ?_ | refine blk_alloc ?_ _)); exact BB.out) hb); have n3_ := Aside0.mk (blk_below (o := .cells #[.int .i64 0, .int .i64 0, .int .i64 0, .int .i64 0, .int .i64 0, .int .i64 0, .int .i64 0, .int .i64 0, .int .i64 0, .int .i64 0, .int .i64 0, .int .i64 0] 24 (0, 0)) (by (with_reducible repeat (first | refine blk_drewN ?_ _ | refine blk_drew ?_ | refine blk_alloc ?_ _)); exact BR.out) hb); have n4_ := Aside0.mk (blk_below (o := .cells (ledger_Post.rowI (ledger_Post.outs N n)) 24 (0, 0)) (by (with_reducible repeat (first | refine blk_drewN ?_ _ | refine blk_drew ?_ | refine blk_alloc ?_ _)); exact BO.out) hb); clear HB BB BR BO BW hb; have HB := n0_; have BB := n2_; have BR := n3_; have BO := n4_; clear n0_ n2_ n3_ n4_) | ((with_reducible refine gate_dst (N := 80) rfl ?_); refine wpList_load_row rfl 24 (.tmp 2) rfl gB rfl 24 #[.int .i64 a0_0, .int .i64 a0_1, .int .i64 a0_2, .int .i64 a0_3, .int .i64 a0_4, .int .i64 a0_5, .int .i64 a0_6, .int .i64 a0_7, .int .i64 a0_8, .int .i64 a0_9, .int .i64 a0_10, .int .i64 a0_11] (0, 0) _ ?hbk hu3 rfl ?hsz ?_; (case hbk => (with_reducible repeat (first | refine blk_drewN ?_ _ | refine blk_drew ?_ | refine blk_alloc ?_ _)); exact BB.out); (case hsz => kernel_rfl)) | ((with_reducible refine gate_store rfl ?_); refine Hand.store_row_event rfl 24 (.tmp 4) (.tmp 80) rfl gR #[.int .i64 a0_0, .int .i64 a0_1, .int .i64 a0_2, .int .i64 a0_3, .int .i64 a0_4, .int .i64 a0_5, .int .i64 a0_6, .int .i64 a0_7, .int .i64 a0_8, .int .i64 a0_9, .int .i64 a0_10, .int .i64 a0_11] rfl rfl 24 #[.int .i64 0, .int .i64 0, .int .i64 0, .int .i64 0, .int .i64 0, .int .i64 0, .int .i64 0, .int .i64 0, .int .i64 0, .int .i64 0, .int .i64 0, .int .i64 0] ?hbk (by kernel_rfl) (by kernel_rfl) (by kernel_rfl) ?_; (case hbk => (with_reducible repeat (first | refine blk_drewN ?_ _ | refine blk_drew ?_ | refine blk_alloc ?_ _)); exact BR.out); intro w9 hnew_ hfar_ hbel_; have m_ := Aside0.mk (hbel_ w GR.out (by repeat (first | (with_reducible first | exact HB.out | apply below_alloc | apply pw_below_drewN | apply below_drew1) | exact HB.out))); clear BR HB ; have HB := m_; have BR := Aside0.mk hnew_; clear m_ hnew_ hfar_ hbel_))
              refine bodyPost_ret (results_ct rfl _ _ gR 24 #[.int .i64 a0_0, .int .i64 a0_1, .int .i64 a0_2, .int .i64 a0_3, .int .i64 a0_4, .int .i64 a0_5, .int .i64 a0_6, .int .i64 a0_7, .int .i64 a0_8, .int .i64 a0_9, .int .i64 a0_10, .int .i64 a0_11] (0, 0) _ rfl (by (with_reducible repeat (first | refine blk_drewN ?_ _ | refine blk_drew ?_ | refine blk_alloc ?_ _)); exact BR.out) hu3 rfl (by kernel_rfl)) rfl ?_
              have hres2 := HRES.out
              simp only [Prod.mk.injEq] at hres2
              obtain ⟨rfl, rfl, rfl, rfl, rfl, rfl, rfl, rfl, rfl, rfl, rfl, rfl, rfl⟩ := hres2
              exact ⟨rfl, by repeat (first | (with_reducible first | exact HB.out | apply below_alloc | apply pw_below_drewN | apply below_drew1) | exact HB.out)⟩
            · have d0 : (x == -9223372036854775808) = false := beq_eq_false_iff_ne.mpr hmin
              have hog := ledger_Post.rowI_get (ledger_Post.outs N n) n (by rw [ledger_Post.outs_len]; exact hlt)
              have hos := ledger_Post.rowI_set (ledger_Post.outs N n) n x
              have hst : ledger_Post.outs N (n + 1) = (ledger_Post.outs N n).set n x := by rw [HXV.out, show ledger_Post.outs N (n + 1) = (ledger_Post.outs N n).set n (wrap64 (N.getD n (0, 0)).2) from rfl, ← HH.out]
              rw [← hst] at hos
              obtain ⟨old, hold⟩ : ∃ z, z = (ledger_Post.outs N n).getD n 0 := ⟨_, rfl⟩
              rw [← hold] at hog
              have HOG := Aside0.mk hog
              have HOS := Aside0.mk hos
              have HLT := Aside0.mk hlt
              have HFN : Aside0 (ledger_Post.fits (N.getD n (0, 0)) = true) := ⟨by rw [← HH.out, HFT.out]; exact bne_iff_ne.mpr hmin⟩
              clear hog hos hst hold hmin hlt
              go_wp2_with (first | ((with_reducible refine gate_dst (N := 14) rfl ?_); refine box_event ?hg (N := 14) ?hd (cs := #[.int .i64 0, .int .u64 0]) (t := 67) ?hr ?_; (case hd => rfl); (case hg => rfl); (case hr => first | (go_simp; done) | (go_simp; rfl)); intro gW hg w7 hbox hb; have n0_ := Aside0.mk (below_step (by repeat (first | (with_reducible first | exact HB.out | apply below_alloc | apply pw_below_drewN | apply below_drew1) | exact HB.out)) hb); have GW := Aside0.mk (show w.heap.size ≤ gW from by rw [hg]; exact below_size (by repeat (first | (with_reducible first | exact HB.out | apply below_alloc | apply pw_below_drewN | apply below_drew1) | exact HB.out))); have NBW : gB ≠ gW := (by rw [hg]; exact Nat.ne_of_lt (blk_lt (g := gB) (o := .cells #[.int .i64 a0_0, .int .i64 a0_1, .int .i64 a0_2, .int .i64 a0_3, .int .i64 a0_4, .int .i64 a0_5, .int .i64 a0_6, .int .i64 a0_7, .int .i64 a0_8, .int .i64 a0_9, .int .i64 a0_10, .int .i64 a0_11] 24 (0, 0)) (by (with_reducible repeat (first | refine blk_drewN ?_ _ | refine blk_drew ?_ | refine blk_alloc ?_ _)); exact BB.out))); have NWB := NBW.symm; have n_ := Aside0.mk (blk_below (g := gB) (o := .cells #[.int .i64 a0_0, .int .i64 a0_1, .int .i64 a0_2, .int .i64 a0_3, .int .i64 a0_4, .int .i64 a0_5, .int .i64 a0_6, .int .i64 a0_7, .int .i64 a0_8, .int .i64 a0_9, .int .i64 a0_10, .int .i64 a0_11] 24 (0, 0)) (by (with_reducible repeat (first | refine blk_drewN ?_ _ | refine blk_drew ?_ | refine blk_alloc ?_ _)); exact BB.out) hb); clear BB; have BB := n_; clear n_; have NRW : gR ≠ gW := (by rw [hg]; exact Nat.ne_of_lt (blk_lt (g := gR) (o := .cells #[.int .i64 0, .int .i64 0, .int .i64 0, .int .i64 0, .int .i64 0, .int .i64 0, .int .i64 0, .int .i64 0, .int .i64 0, .int .i64 0, .int .i64 0, .int .i64 0] 24 (0, 0)) (by (with_reducible repeat (first | refine blk_drewN ?_ _ | refine blk_drew ?_ | refine blk_alloc ?_ _)); exact BR.out))); have NWR := NRW.symm; have n_ := Aside0.mk (blk_below (g := gR) (o := .cells #[.int .i64 0, .int .i64 0, .int .i64 0, .int .i64 0, .int .i64 0, .int .i64 0, .int .i64 0, .int .i64 0, .int .i64 0, .int .i64 0, .int .i64 0, .int .i64 0] 24 (0, 0)) (by (with_reducible repeat (first | refine blk_drewN ?_ _ | refine blk_drew ?_ | refine blk_alloc ?_ _)); exact BR.out) hb); clear BR; have BR := n_; clear n_; have NOW : gO ≠ gW := (by rw [hg]; exact Nat.ne_of_lt (blk_lt (g := gO) (o := .cells (ledger_Post.rowI (ledger_Post.outs N n)) 24 (0, 0)) (by (with_reducible repeat (first | refine blk_drewN ?_ _ | refine blk_drew ?_ | refine blk_alloc ?_ _)); exact BO.out))); have NWO := NOW.symm; have n_ := Aside0.mk (blk_below (g := gO) (o := .cells (ledger_Post.rowI (ledger_Post.outs N n)) 24 (0, 0)) (by (with_reducible repeat (first | refine blk_drewN ?_ _ | refine blk_drew ?_ | refine blk_alloc ?_ _)); exact BO.out) hb); clear BO; have BO := n_; clear n_; clear HB; have HB := n0_; clear n0_; have BW := Aside0.mk hbox; clear hbox hb hg) | ((with_reducible refine gate_store rfl ?_); refine Hand.store_row_event rfl 67 (.tmp 14) (.tmp 68) rfl gW #[.int .i64 h, .int .u64 l] rfl rfl 67 #[.int .i64 0, .int .u64 0] ?hbk (by kernel_rfl) (by kernel_rfl) (by kernel_rfl) ?_; (case hbk => (with_reducible repeat (first | refine blk_drewN ?_ _ | refine blk_drew ?_ | refine blk_alloc ?_ _)); exact BW.out); intro w9 hnew_ hfar_ hbel_; have m_ := Aside0.mk (hbel_ w GW.out (by repeat (first | (with_reducible first | exact HB.out | apply below_alloc | apply pw_below_drewN | apply below_drew1) | exact HB.out))); have n0_ := Aside0.mk ((hfar_ gB NBW).trans (by (with_reducible repeat (first | refine blk_drewN ?_ _ | refine blk_drew ?_ | refine blk_alloc ?_ _)); exact BB.out)); have n1_ := Aside0.mk ((hfar_ gR NRW).trans (by (with_reducible repeat (first | refine blk_drewN ?_ _ | refine blk_drew ?_ | refine blk_alloc ?_ _)); exact BR.out)); have n2_ := Aside0.mk ((hfar_ gO NOW).trans (by (with_reducible repeat (first | refine blk_drewN ?_ _ | refine blk_drew ?_ | refine blk_alloc ?_ _)); exact BO.out)); clear BW HB BB BR BO; have HB := m_; have BW := Aside0.mk hnew_; have BB := n0_; clear n0_; have BR := n1_; clear n1_; have BO := n2_; clear n2_; clear m_ hnew_ hfar_ hbel_) | ((with_reducible refine gate_dst (N := 70) rfl ?_); refine wpList_load_row rfl 67 (.tmp 14) rfl gW rfl 67 #[.int .i64 h, .int .u64 l] (0, 0) _ ?hbk hu4 rfl ?hsz ?_; (case hbk => (with_reducible repeat (first | refine blk_drewN ?_ _ | refine blk_drew ?_ | refine blk_alloc ?_ _)); exact BW.out); (case hsz => kernel_rfl)) | (go_at_call 38; refine (ledger_wide_narrow.calls h l x true _ NF.out).mono ?_; rintro e w' ⟨rfl, hb⟩; have n0_ := Aside0.mk (below_step (by repeat (first | (with_reducible first | exact HB.out | apply below_alloc | apply pw_below_drewN | apply below_drew1) | exact HB.out)) hb); have n2_ := Aside0.mk (blk_below (o := .cells #[.int .i64 a0_0, .int .i64 a0_1, .int .i64 a0_2, .int .i64 a0_3, .int .i64 a0_4, .int .i64 a0_5, .int .i64 a0_6, .int .i64 a0_7, .int .i64 a0_8, .int .i64 a0_9, .int .i64 a0_10, .int .i64 a0_11] 24 (0, 0)) (by (with_reducible repeat (first | refine blk_drewN ?_ _ | refine blk_drew ?_ | refine blk_alloc ?_ _)); exact BB.out) hb); have n3_ := Aside0.mk (blk_below (o := .cells #[.int .i64 0, .int .i64 0, .int .i64 0, .int .i64 0, .int .i64 0, .int .i64 0, .int .i64 0, .int .i64 0, .int .i64 0, .int .i64 0, .int .i64 0, .int .i64 0] 24 (0, 0)) (by (with_reducible repeat (first | refine blk_drewN ?_ _ | refine blk_drew ?_ | refine blk_alloc ?_ _)); exact BR.out) hb); have n4_ := Aside0.mk (blk_below (o := .cells (ledger_Post.rowI (ledger_Post.outs N n)) 24 (0, 0)) (by (with_reducible repeat (first | refine blk_drewN ?_ _ | refine blk_drew ?_ | refine blk_alloc ?_ _)); exact BO.out) hb); clear HB BB BR BO BW hb; have HB := n0_; have BB := n2_; have BR := n3_; have BO := n4_; clear n0_ n2_ n3_ n4_; have oc0 : w'.cell? ⟨gO, n, none⟩ = some (.int .i64 old) := (blk_cell BO.out n).trans HOG.out; have of0 := blk_frozen BO.out n))
              go_roundw
              case rel => exact ⟨n + 1, HLT.out, by go_num, ⟨fun j hj => by rcases Nat.lt_succ_iff_lt_or_eq.1 hj with h | h; exact HF.out j h; rw [h]; exact HFN.out⟩, ⟨by (with_reducible repeat (first | refine blk_drewN ?_ _ | refine blk_drew ?_ | refine blk_alloc ?_ _)); refine blk_far ?_ NBO _; (with_reducible repeat (first | refine blk_drewN ?_ _ | refine blk_drew ?_ | refine blk_alloc ?_ _)); exact BB.out⟩, ⟨by (with_reducible repeat (first | refine blk_drewN ?_ _ | refine blk_drew ?_ | refine blk_alloc ?_ _)); refine blk_far ?_ NRO _; (with_reducible repeat (first | refine blk_drewN ?_ _ | refine blk_drew ?_ | refine blk_alloc ?_ _)); exact BR.out⟩, ⟨by (with_reducible repeat (first | refine blk_drewN ?_ _ | refine blk_drew ?_ | refine blk_alloc ?_ _)); refine blk_put (cs := ledger_Post.rowI (ledger_Post.outs N n)) ?_ n _ HOS.out; (with_reducible repeat (first | refine blk_drewN ?_ _ | refine blk_drew ?_ | refine blk_alloc ?_ _)); exact BO.out⟩, ⟨by repeat (first | (with_reducible first | exact HB.out | apply below_alloc | apply pw_below_drewN | apply below_drew1 | refine below_set ?_ GO.out) | exact HB.out)⟩⟩
              case measure => (have hlt_ := HLT.out; first | (simp [intOf]; done) | (simp [intOf]; omega))
        have hn12 : n = 12 := by omega
        subst hn12
        clear hlt hn
        obtain ⟨o0, o1, o2, o3, o4, o5, o6, o7, o8, o9, o10, o11, hO⟩ := ledger_Post.split12 (ledger_Post.outs_len N 12)
        have BO' : Aside0 (wr.heap[gO]? = some (.cells #[.int .i64 o0, .int .i64 o1, .int .i64 o2, .int .i64 o3, .int .i64 o4, .int .i64 o5, .int .i64 o6, .int .i64 o7, .int .i64 o8, .int .i64 o9, .int .i64 o10, .int .i64 o11] 24 (0, 0))) := ⟨by have h := BO.out; rw [hO] at h; exact h⟩
        have HO := Aside0.mk hO
        clear BO hO
        have BO := BO'
        clear BO'
        have HFA : Aside0 (∀ i, i < 12 → ledger_Post.fits ((ledger_Post.run [a0_0, a0_1, a0_2, a0_3, a0_4, a0_5, a0_6, a0_7, a0_8, a0_9, a0_10, a0_11] l0 l0.length).getD i (0, 0)) = true) := ⟨by rw [← HN.out]; exact HF.out⟩
        go_wp2_with (first | ((with_reducible refine gate_dst (N := 87) rfl ?_); refine wpList_load_row rfl 22 (.tmp 86) rfl gO rfl 24 #[.int .i64 o0, .int .i64 o1, .int .i64 o2, .int .i64 o3, .int .i64 o4, .int .i64 o5, .int .i64 o6, .int .i64 o7, .int .i64 o8, .int .i64 o9, .int .i64 o10, .int .i64 o11] (0, 0) _ ?hbk hu1 rfl ?hsz ?_; (case hbk => (with_reducible repeat (first | refine blk_drewN ?_ _ | refine blk_drew ?_ | refine blk_alloc ?_ _)); exact BO.out); (case hsz => kernel_rfl)))
        go_loopw [88] (fun i wr => ∃ n : Nat, n ≤ 12 ∧ i = .int .i64 n ∧ Aside0 (∀ j, j < n → ledger_Post.wrong j (([o0, o1, o2, o3, o4, o5, o6, o7, o8, o9, o10, o11] : List Int).getD j 0) = false) ∧ Aside0 (wr.heap[gB]? = some (.cells #[.int .i64 a0_0, .int .i64 a0_1, .int .i64 a0_2, .int .i64 a0_3, .int .i64 a0_4, .int .i64 a0_5, .int .i64 a0_6, .int .i64 a0_7, .int .i64 a0_8, .int .i64 a0_9, .int .i64 a0_10, .int .i64 a0_11] 24 (0, 0))) ∧ Aside0 (wr.heap[gR]? = some (.cells #[.int .i64 0, .int .i64 0, .int .i64 0, .int .i64 0, .int .i64 0, .int .i64 0, .int .i64 0, .int .i64 0, .int .i64 0, .int .i64 0, .int .i64 0, .int .i64 0] 24 (0, 0))) ∧ Aside0 (wr.heap[gO]? = some (.cells #[.int .i64 o0, .int .i64 o1, .int .i64 o2, .int .i64 o3, .int .i64 o4, .int .i64 o5, .int .i64 o6, .int .i64 o7, .int .i64 o8, .int .i64 o9, .int .i64 o10, .int .i64 o11] 24 (0, 0))) ∧ Aside0 (Below w.heap.size w wr)) (fun i _ => 12 - (intOf i).toNat)
        case atStart => exact ⟨0, by omega, rfl, ⟨fun j hj => absurd hj (Nat.not_lt_zero j)⟩, BB, BR, BO, HB⟩
        case round =>
          clear BB BR BO HB
          obtain ⟨n, hn, rfl, HW, BB, BR, BO, HB⟩ := hrel
          by_cases hlt : n < 12
          · have hix := ledger_Post.idx12 o0 o1 o2 o3 o4 o5 o6 o7 o8 o9 o10 o11 n hlt
            have t0 := ledger_Post.cells w HL.out n hlt
            have tb := (HB.out.cell (World.block_lt_of_cell? w _ t0)).trans t0
            clear t0
            have q0 := eq_true (show (0 : Int) ≤ (n : Int) by omega)
            have q1 := eq_true (show (n : Int) < 12 by omega)
            have q2 := eq_true (show n < 12 by omega)
            obtain ⟨x, hx⟩ : ∃ x, x = ([o0, o1, o2, o3, o4, o5, o6, o7, o8, o9, o10, o11] : List Int).getD n 0 := ⟨_, rfl⟩
            obtain ⟨s, hs⟩ : ∃ s, s = ledger_Post.side n := ⟨_, rfl⟩
            rw [← hx] at hix
            rw [← hs] at tb
            have hwr : ledger_Post.wrong n (([o0, o1, o2, o3, o4, o5, o6, o7, o8, o9, o10, o11] : List Int).getD n 0) = ((decide (x < 0) && decide (0 < s)) || (decide (0 < x) && decide (s < 0))) := by rw [← hx]; unfold ledger_Post.wrong; rw [← hs] <;> rfl
            have HWR := Aside0.mk hwr
            have HLT := Aside0.mk hlt
            clear hx hs hwr
            clear hlt
            by_cases c0 : x < 0
            · have d0 : decide (x < 0) = true := decide_eq_true c0
              have d2 : decide (0 < x) = false := decide_eq_false (by omega)
              by_cases c1 : 0 < s
              · have d1 : decide (0 < s) = true := decide_eq_true c1
                clear c0 c1 d2
                have hs := ledger_Post.end_side (b := [a0_0, a0_1, a0_2, a0_3, a0_4, a0_5, a0_6, a0_7, a0_8, a0_9, a0_10, a0_11]) HX.out HE.out HM.out HGA.out HFA.out HLT.out (by rw [← HN.out, HO.out, HWR.out]; simp only [d0, d1, Bool.and_self, Bool.true_or] <;> rfl)
                have hres := RES.out
                rw [hs] at hres
                have hres2 : (a0_0, a0_1, a0_2, a0_3, a0_4, a0_5, a0_6, a0_7, a0_8, a0_9, a0_10, a0_11, 81) = (r0, r1, r2, r3, r4, r5, r6, r7, r8, r9, r10, r11, r12) := hres
                have HRES := Aside0.mk hres2
                clear hs hres hres2 RES
                go_wp2_with (first | ((with_reducible refine gate_dst (N := 110) rfl ?_); refine wpList_load_row rfl 24 (.tmp 2) rfl gB rfl 24 #[.int .i64 a0_0, .int .i64 a0_1, .int .i64 a0_2, .int .i64 a0_3, .int .i64 a0_4, .int .i64 a0_5, .int .i64 a0_6, .int .i64 a0_7, .int .i64 a0_8, .int .i64 a0_9, .int .i64 a0_10, .int .i64 a0_11] (0, 0) _ ?hbk hu3 rfl ?hsz ?_; (case hbk => (with_reducible repeat (first | refine blk_drewN ?_ _ | refine blk_drew ?_ | refine blk_alloc ?_ _)); exact BB.out); (case hsz => kernel_rfl)) | ((with_reducible refine gate_store rfl ?_); refine Hand.store_row_event rfl 24 (.tmp 4) (.tmp 110) rfl gR #[.int .i64 a0_0, .int .i64 a0_1, .int .i64 a0_2, .int .i64 a0_3, .int .i64 a0_4, .int .i64 a0_5, .int .i64 a0_6, .int .i64 a0_7, .int .i64 a0_8, .int .i64 a0_9, .int .i64 a0_10, .int .i64 a0_11] rfl rfl 24 #[.int .i64 0, .int .i64 0, .int .i64 0, .int .i64 0, .int .i64 0, .int .i64 0, .int .i64 0, .int .i64 0, .int .i64 0, .int .i64 0, .int .i64 0, .int .i64 0] ?hbk (by kernel_rfl) (by kernel_rfl) (by kernel_rfl) ?_; (case hbk => (with_reducible repeat (first | refine blk_drewN ?_ _ | refine blk_drew ?_ | refine blk_alloc ?_ _)); exact BR.out); intro w9 hnew_ hfar_ hbel_; have m_ := Aside0.mk (hbel_ w GR.out (by repeat (first | (with_reducible first | exact HB.out | apply below_alloc | apply pw_below_drewN | apply below_drew1) | exact HB.out))); clear BR HB ; have HB := m_; have BR := Aside0.mk hnew_; clear m_ hnew_ hfar_ hbel_))
                refine bodyPost_ret (results_ct rfl _ _ gR 24 #[.int .i64 a0_0, .int .i64 a0_1, .int .i64 a0_2, .int .i64 a0_3, .int .i64 a0_4, .int .i64 a0_5, .int .i64 a0_6, .int .i64 a0_7, .int .i64 a0_8, .int .i64 a0_9, .int .i64 a0_10, .int .i64 a0_11] (0, 0) _ rfl (by (with_reducible repeat (first | refine blk_drewN ?_ _ | refine blk_drew ?_ | refine blk_alloc ?_ _)); exact BR.out) hu3 rfl (by kernel_rfl)) rfl ?_
                have hres2 := HRES.out
                simp only [Prod.mk.injEq] at hres2
                obtain ⟨rfl, rfl, rfl, rfl, rfl, rfl, rfl, rfl, rfl, rfl, rfl, rfl, rfl⟩ := hres2
                exact ⟨rfl, by repeat (first | (with_reducible first | exact HB.out | apply below_alloc | apply pw_below_drewN | apply below_drew1) | exact HB.out)⟩
              · have d1 : decide (0 < s) = false := decide_eq_false c1
                clear c0 c1
                have HWN : Aside0 (ledger_Post.wrong n (([o0, o1, o2, o3, o4, o5, o6, o7, o8, o9, o10, o11] : List Int).getD n 0) = false) := ⟨by rw [HWR.out]; simp only [d0, d1, d2, Bool.and_false, Bool.false_and, Bool.or_self] <;> rfl⟩
                clear HWR
                go_wp2
                go_roundw
                case rel => exact ⟨n + 1, HLT.out, by go_num, ⟨fun j hj => by rcases Nat.lt_succ_iff_lt_or_eq.1 hj with h | h; exact HW.out j h; rw [h]; exact HWN.out⟩, ⟨by (with_reducible repeat (first | refine blk_drewN ?_ _ | refine blk_drew ?_ | refine blk_alloc ?_ _)); exact BB.out⟩, ⟨by (with_reducible repeat (first | refine blk_drewN ?_ _ | refine blk_drew ?_ | refine blk_alloc ?_ _)); exact BR.out⟩, ⟨by (with_reducible repeat (first | refine blk_drewN ?_ _ | refine blk_drew ?_ | refine blk_alloc ?_ _)); exact BO.out⟩, ⟨by repeat (first | (with_reducible first | exact HB.out | apply below_alloc | apply pw_below_drewN | apply below_drew1) | exact HB.out)⟩⟩
                case measure => (have hlt_ := HLT.out; first | (simp [intOf]; done) | (simp [intOf]; omega))
            · have d0 : decide (x < 0) = false := decide_eq_false c0
              by_cases c2 : 0 < x
              · have d2 : decide (0 < x) = true := decide_eq_true c2
                by_cases c1 : s < 0
                · have d1 : decide (s < 0) = true := decide_eq_true c1
                  clear c0 c1 c2
                  have hs := ledger_Post.end_side (b := [a0_0, a0_1, a0_2, a0_3, a0_4, a0_5, a0_6, a0_7, a0_8, a0_9, a0_10, a0_11]) HX.out HE.out HM.out HGA.out HFA.out HLT.out (by rw [← HN.out, HO.out, HWR.out]; simp only [d0, d1, d2, Bool.and_self, Bool.false_and, Bool.or_true] <;> rfl)
                  have hres := RES.out
                  rw [hs] at hres
                  have hres2 : (a0_0, a0_1, a0_2, a0_3, a0_4, a0_5, a0_6, a0_7, a0_8, a0_9, a0_10, a0_11, 81) = (r0, r1, r2, r3, r4, r5, r6, r7, r8, r9, r10, r11, r12) := hres
                  have HRES := Aside0.mk hres2
                  clear hs hres hres2 RES
                  go_wp2_with (first | ((with_reducible refine gate_dst (N := 110) rfl ?_); refine wpList_load_row rfl 24 (.tmp 2) rfl gB rfl 24 #[.int .i64 a0_0, .int .i64 a0_1, .int .i64 a0_2, .int .i64 a0_3, .int .i64 a0_4, .int .i64 a0_5, .int .i64 a0_6, .int .i64 a0_7, .int .i64 a0_8, .int .i64 a0_9, .int .i64 a0_10, .int .i64 a0_11] (0, 0) _ ?hbk hu3 rfl ?hsz ?_; (case hbk => (with_reducible repeat (first | refine blk_drewN ?_ _ | refine blk_drew ?_ | refine blk_alloc ?_ _)); exact BB.out); (case hsz => kernel_rfl)) | ((with_reducible refine gate_store rfl ?_); refine Hand.store_row_event rfl 24 (.tmp 4) (.tmp 110) rfl gR #[.int .i64 a0_0, .int .i64 a0_1, .int .i64 a0_2, .int .i64 a0_3, .int .i64 a0_4, .int .i64 a0_5, .int .i64 a0_6, .int .i64 a0_7, .int .i64 a0_8, .int .i64 a0_9, .int .i64 a0_10, .int .i64 a0_11] rfl rfl 24 #[.int .i64 0, .int .i64 0, .int .i64 0, .int .i64 0, .int .i64 0, .int .i64 0, .int .i64 0, .int .i64 0, .int .i64 0, .int .i64 0, .int .i64 0, .int .i64 0] ?hbk (by kernel_rfl) (by kernel_rfl) (by kernel_rfl) ?_; (case hbk => (with_reducible repeat (first | refine blk_drewN ?_ _ | refine blk_drew ?_ | refine blk_alloc ?_ _)); exact BR.out); intro w9 hnew_ hfar_ hbel_; have m_ := Aside0.mk (hbel_ w GR.out (by repeat (first | (with_reducible first | exact HB.out | apply below_alloc | apply pw_below_drewN | apply below_drew1) | exact HB.out))); clear BR HB ; have HB := m_; have BR := Aside0.mk hnew_; clear m_ hnew_ hfar_ hbel_))
                  refine bodyPost_ret (results_ct rfl _ _ gR 24 #[.int .i64 a0_0, .int .i64 a0_1, .int .i64 a0_2, .int .i64 a0_3, .int .i64 a0_4, .int .i64 a0_5, .int .i64 a0_6, .int .i64 a0_7, .int .i64 a0_8, .int .i64 a0_9, .int .i64 a0_10, .int .i64 a0_11] (0, 0) _ rfl (by (with_reducible repeat (first | refine blk_drewN ?_ _ | refine blk_drew ?_ | refine blk_alloc ?_ _)); exact BR.out) hu3 rfl (by kernel_rfl)) rfl ?_
                  have hres2 := HRES.out
                  simp only [Prod.mk.injEq] at hres2
                  obtain ⟨rfl, rfl, rfl, rfl, rfl, rfl, rfl, rfl, rfl, rfl, rfl, rfl, rfl⟩ := hres2
                  exact ⟨rfl, by repeat (first | (with_reducible first | exact HB.out | apply below_alloc | apply pw_below_drewN | apply below_drew1) | exact HB.out)⟩
                · have d1 : decide (s < 0) = false := decide_eq_false c1
                  clear c0 c1 c2
                  have HWN : Aside0 (ledger_Post.wrong n (([o0, o1, o2, o3, o4, o5, o6, o7, o8, o9, o10, o11] : List Int).getD n 0) = false) := ⟨by rw [HWR.out]; simp only [d0, d1, d2, Bool.and_false, Bool.false_and, Bool.or_self] <;> rfl⟩
                  clear HWR
                  go_wp2
                  go_roundw
                  case rel => exact ⟨n + 1, HLT.out, by go_num, ⟨fun j hj => by rcases Nat.lt_succ_iff_lt_or_eq.1 hj with h | h; exact HW.out j h; rw [h]; exact HWN.out⟩, ⟨by (with_reducible repeat (first | refine blk_drewN ?_ _ | refine blk_drew ?_ | refine blk_alloc ?_ _)); exact BB.out⟩, ⟨by (with_reducible repeat (first | refine blk_drewN ?_ _ | refine blk_drew ?_ | refine blk_alloc ?_ _)); exact BR.out⟩, ⟨by (with_reducible repeat (first | refine blk_drewN ?_ _ | refine blk_drew ?_ | refine blk_alloc ?_ _)); exact BO.out⟩, ⟨by repeat (first | (with_reducible first | exact HB.out | apply below_alloc | apply pw_below_drewN | apply below_drew1) | exact HB.out)⟩⟩
                  case measure => (have hlt_ := HLT.out; first | (simp [intOf]; done) | (simp [intOf]; omega))
              · have d2 : decide (0 < x) = false := decide_eq_false c2
                clear c0 c2
                have HWN : Aside0 (ledger_Post.wrong n (([o0, o1, o2, o3, o4, o5, o6, o7, o8, o9, o10, o11] : List Int).getD n 0) = false) := ⟨by rw [HWR.out]; simp only [d0, d2, Bool.and_false, Bool.false_and, Bool.or_self] <;> rfl⟩
                clear HWR
                go_wp2
                go_roundw
                case rel => exact ⟨n + 1, HLT.out, by go_num, ⟨fun j hj => by rcases Nat.lt_succ_iff_lt_or_eq.1 hj with h | h; exact HW.out j h; rw [h]; exact HWN.out⟩, ⟨by (with_reducible repeat (first | refine blk_drewN ?_ _ | refine blk_drew ?_ | refine blk_alloc ?_ _)); exact BB.out⟩, ⟨by (with_reducible repeat (first | refine blk_drewN ?_ _ | refine blk_drew ?_ | refine blk_alloc ?_ _)); exact BR.out⟩, ⟨by (with_reducible repeat (first | refine blk_drewN ?_ _ | refine blk_drew ?_ | refine blk_alloc ?_ _)); exact BO.out⟩, ⟨by repeat (first | (with_reducible first | exact HB.out | apply below_alloc | apply pw_below_drewN | apply below_drew1) | exact HB.out)⟩⟩
                case measure => (have hlt_ := HLT.out; first | (simp [intOf]; done) | (simp [intOf]; omega))
          have hn12 : n = 12 := by omega
          subst hn12
          clear hlt hn
          have hs := ledger_Post.end_good (b := [a0_0, a0_1, a0_2, a0_3, a0_4, a0_5, a0_6, a0_7, a0_8, a0_9, a0_10, a0_11]) HX.out HE.out HM.out HGA.out HFA.out (by rw [← HN.out, HO.out]; exact HW.out)
          have hres := RES.out
          rw [hs, ← HN.out, HO.out] at hres
          have hres2 : (o0, o1, o2, o3, o4, o5, o6, o7, o8, o9, o10, o11, 0) = (r0, r1, r2, r3, r4, r5, r6, r7, r8, r9, r10, r11, r12) := hres
          have HRES := Aside0.mk hres2
          clear hs hres hres2 RES
          go_wp2_with (first | ((with_reducible refine gate_dst (N := 112) rfl ?_); refine wpList_load_row rfl 24 (.tmp 12) rfl gO rfl 24 #[.int .i64 o0, .int .i64 o1, .int .i64 o2, .int .i64 o3, .int .i64 o4, .int .i64 o5, .int .i64 o6, .int .i64 o7, .int .i64 o8, .int .i64 o9, .int .i64 o10, .int .i64 o11] (0, 0) _ ?hbk hu3 rfl ?hsz ?_; (case hbk => (with_reducible repeat (first | refine blk_drewN ?_ _ | refine blk_drew ?_ | refine blk_alloc ?_ _)); exact BO.out); (case hsz => kernel_rfl)) | ((with_reducible refine gate_store rfl ?_); refine Hand.store_row_event rfl 24 (.tmp 4) (.tmp 112) rfl gR #[.int .i64 o0, .int .i64 o1, .int .i64 o2, .int .i64 o3, .int .i64 o4, .int .i64 o5, .int .i64 o6, .int .i64 o7, .int .i64 o8, .int .i64 o9, .int .i64 o10, .int .i64 o11] rfl rfl 24 #[.int .i64 0, .int .i64 0, .int .i64 0, .int .i64 0, .int .i64 0, .int .i64 0, .int .i64 0, .int .i64 0, .int .i64 0, .int .i64 0, .int .i64 0, .int .i64 0] ?hbk (by kernel_rfl) (by kernel_rfl) (by kernel_rfl) ?_; (case hbk => (with_reducible repeat (first | refine blk_drewN ?_ _ | refine blk_drew ?_ | refine blk_alloc ?_ _)); exact BR.out); intro w9 hnew_ hfar_ hbel_; have m_ := Aside0.mk (hbel_ w GR.out (by repeat (first | (with_reducible first | exact HB.out | apply below_alloc | apply pw_below_drewN | apply below_drew1) | exact HB.out))); clear BR HB ; have HB := m_; have BR := Aside0.mk hnew_; clear m_ hnew_ hfar_ hbel_))
          refine bodyPost_ret (results_ct rfl _ _ gR 24 #[.int .i64 o0, .int .i64 o1, .int .i64 o2, .int .i64 o3, .int .i64 o4, .int .i64 o5, .int .i64 o6, .int .i64 o7, .int .i64 o8, .int .i64 o9, .int .i64 o10, .int .i64 o11] (0, 0) _ rfl (by (with_reducible repeat (first | refine blk_drewN ?_ _ | refine blk_drew ?_ | refine blk_alloc ?_ _)); exact BR.out) hu3 rfl (by kernel_rfl)) rfl ?_
          have hres2 := HRES.out
          simp only [Prod.mk.injEq] at hres2
          obtain ⟨rfl, rfl, rfl, rfl, rfl, rfl, rfl, rfl, rfl, rfl, rfl, rfl, rfl⟩ := hres2
          exact ⟨rfl, by repeat (first | (with_reducible first | exact HB.out | apply below_alloc | apply pw_below_drewN | apply below_drew1) | exact HB.out)⟩

end Go.Proofs.YtmppfpdaglkhkaaDoor.Q
