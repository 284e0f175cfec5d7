/- Plain facts: numbers of 128 bits; what Total tells, the program's and the document's. No condition beyond the lists' bulk. -/
import Derived.Test.YtmppfpdaglkhkaaZSum
import Derived.Test.YtmppfpdaglkhkaaZx1
import Derived.Test.YtmppfpdaglkhkaaZx1
import Derived.Test.YtmppfpdaglkhkaaZx2
namespace Go.Proofs.Ytmppfpdaglkhkaa.Z
open Go.RowKit Go.Proofs.YtmppfpdaglkhkaaW.PrintWords Go.Proofs.YtmppfpdaglkhkaaW.PrintLast
set_option linter.unusedVariables false
set_option linter.unusedSimpArgs false
theorem w64 {x : Int} (h0 : -9223372036854775808 ≤ x) (h1 : x ≤ 9223372036854775807) : wrap64 x = x := by unfold wrap64; omega
theorem selI_nat (l : List Int) (i : Nat) : selI l (i : Int) = l.getD i 0 := by unfold selI; rw [Int.toNat_natCast]
def Wd.pl (p : Int × Int) (x : Int) : Int × Int := (wrap64 (wrap64 (p.1 + x / 9223372036854775808) + ledger_wide_plus.c p.2 x), ledger_wide_plus.s p.2 x)
def Wd.ok (p : Int × Int) : Prop := 0 ≤ p.2 ∧ p.2 ≤ 18446744073709551615
def Wd.val (p : Int × Int) : Int := p.1 * 18446744073709551616 + p.2
abbrev Wd.in64 (x : Int) : Prop := -9223372036854775808 ≤ x ∧ x ≤ 9223372036854775807
theorem Wd.wrap_id {x : Int} (h : Wd.in64 x) : wrap64 x = x := by unfold Wd.in64 at h; unfold wrap64; omega
def Wd.big (x : Int) : Prop := -85070591730234615865843651857942052864 ≤ x ∧ x ≤ 85070591730234615865843651857942052864
theorem Wd.pl_ok (p : Int × Int) (x : Int) : Wd.ok (Wd.pl p x) := by
  unfold Wd.ok Wd.pl ledger_wide_plus.s; dsimp only; omega
theorem Wd.pl_val {p : Int × Int} (h : Wd.ok p) {x : Int} (hx : Wd.in64 x) (hv : Wd.big (Wd.val p)) : Wd.val (Wd.pl p x) = Wd.val p + x := by
  unfold Wd.ok at h; unfold Wd.in64 at hx; unfold Wd.big Wd.val at hv
  have h1 : -4611686018427387905 ≤ p.1 ∧ p.1 ≤ 4611686018427387904 := by omega
  have h2 : -1 ≤ x / 9223372036854775808 ∧ x / 9223372036854775808 ≤ 0 := by omega
  have h3 : 0 ≤ ledger_wide_plus.c p.2 x ∧ ledger_wide_plus.c p.2 x ≤ 1 := by unfold ledger_wide_plus.c; omega
  have h4 : ledger_wide_plus.c p.2 x * 18446744073709551616 + ledger_wide_plus.s p.2 x = p.2 + x % 18446744073709551616 := by unfold ledger_wide_plus.c ledger_wide_plus.s; omega
  have h5 : x % 18446744073709551616 = x - (x / 9223372036854775808) * 18446744073709551616 := by omega
  unfold Wd.val Wd.pl
  rw [Wd.wrap_id (x := p.1 + x / 9223372036854775808) (by unfold Wd.in64; omega), Wd.wrap_id (by unfold Wd.in64; omega)]
  dsimp only; omega
theorem Wd.pl_f {p : Int × Int} (h : Wd.ok p) (x : Int) : ledger_wide_plus.f p.1 p.2 x = some ((Wd.pl p x).1, (Wd.pl p x).2) := by
  unfold ledger_wide_plus.f; rw [if_pos (show 0 ≤ p.2 ∧ p.2 ≤ 18446744073709551615 from h)]; rfl
theorem nar {p : Int × Int} (h : Wd.ok p) : (p.1 == wrap64 p.2 / 9223372036854775808) = decide (Wd.in64 (Wd.val p)) ∧ (Wd.in64 (Wd.val p) → wrap64 p.2 = Wd.val p) := by
  unfold Wd.ok at h
  unfold Wd.val Wd.in64
  constructor
  · rw [Bool.eq_iff_iff, beq_iff_eq, decide_eq_true_eq]
    unfold wrap64; omega
  · unfold wrap64; omega
theorem sum_bound : ∀ l : List Int, (∀ x ∈ l, Wd.in64 x) → -((l.length : Int) * 9223372036854775808) ≤ l.sum ∧ l.sum ≤ (l.length : Int) * 9223372036854775808
  | [], _ => by simp
  | x :: l, h => by
    have h1 := sum_bound l (fun y hy => h y (by simp [hy]))
    have h2 := h x (by simp)
    unfold Wd.in64 at h2
    rw [List.sum_cons, List.length_cons]
    omega
/-- A book's twelve nets. -/
def nets (b : S32) : List Int := [b.f0.f0, b.f0.f1, b.f0.f2, b.f0.f3, b.f0.f4, b.f0.f5, b.f0.f6, b.f0.f7, b.f0.f8, b.f0.f9, b.f0.f10, b.f0.f11]
def colL (l : List S32) (i : Nat) : List Int := l.map (fun b => (nets b).getD i 0)
/-- An account's nets, added up. -/
def col (l : List S32) (i : Nat) : Int := (colL l i).sum
def Bs (l : List S32) : Prop := ∀ b ∈ l, ∀ x ∈ nets b, Wd.in64 x
theorem nets_in {b : S32} (h : ∀ x ∈ nets b, Wd.in64 x) (i : Nat) : Wd.in64 ((nets b).getD i 0) := by
  rw [List.getD_eq_getElem?_getD]
  cases hi : (nets b)[i]? with
  | none => exact ⟨by decide, by decide⟩
  | some x => exact h x (List.mem_of_getElem? hi)
theorem Bs.col {l : List S32} (h : Bs l) (i : Nat) : ∀ x ∈ colL l i, Wd.in64 x := by
  intro x hx
  unfold colL at hx
  obtain ⟨b, hb, rfl⟩ := List.mem_map.1 hx
  exact nets_in (h b hb) i
theorem rd_at (l : List S32) (i : Nat) (h : i < l.length) : rd_T32 l (i : Int) = l[i] := by
  unfold rd_T32
  rw [Int.toNat_natCast, List.getD_eq_getElem?_getD, List.getElem?_eq_getElem h]; rfl
theorem sel_at (l : List S32) (i a : Nat) (h : i < l.length) : selI (nets (rd_T32 l (i : Int))) (a : Int) = (colL l a)[i]'(by unfold colL; rw [List.length_map]; exact h) := by
  rw [rd_at l i h, selI_nat]; simp [colL]
def part (l : List S32) (i j : Nat) : Int := if j < i then col l j else 0
theorem put_part (l : List S32) (a j : Nat) : putI (a : Int) j (col l a) (part l a j) = part l (a + 1) j := by
  unfold putI part
  by_cases c : (a : Int) = (j : Int)
  · obtain rfl : a = j := by omega
    rw [if_pos rfl, if_pos (by omega)]
  · rw [if_neg c]
    by_cases d : j < a
    · rw [if_pos d, if_pos (by omega)]
    · rw [if_neg d, if_neg (by omega)]
def okB (l : List S32) : Bool := (List.range 12).all (fun i => decide (Wd.in64 (col l i)))
theorem okB_true {l : List S32} (h : ∀ i, i < 12 → Wd.in64 (col l i)) : okB l = true := by
  unfold okB; rw [List.all_eq_true]; exact fun i hi => decide_eq_true (h i (List.mem_range.1 hi))
theorem okB_in {l : List S32} (h : okB l = true) (i : Nat) (hi : i < 12) : Wd.in64 (col l i) := by
  unfold okB at h; exact of_decide_eq_true (List.all_eq_true.1 h i (List.mem_range.2 hi))
theorem okB_false {l : List S32} (a : Nat) (ha : a < 12) (h : ¬ Wd.in64 (col l a)) : okB l = false := by
  cases e : okB l with
  | false => rfl
  | true => exact absurd (okB_in e a ha) h
/-- What Total tells of each account. -/
def St (l : List S32) (i : Nat) : Int := if okB l = true then col l i else 0
def tup13 (f : Nat → Int) (b : Bool) : Int × Int × Int × Int × Int × Int × Int × Int × Int × Int × Int × Int × Bool := (f 0, f 1, f 2, f 3, f 4, f 5, f 6, f 7, f 8, f 9, f 10, f 11, b)
def totalOf (l : List S32) : Int × Int × Int × Int × Int × Int × Int × Int × Int × Int × Int × Int × Bool := tup13 (St l) (okB l)
theorem total_ok {l : List S32} (h : okB l = true) : totalOf l = (part l 12 0, part l 12 1, part l 12 2, part l 12 3, part l 12 4, part l 12 5, part l 12 6, part l 12 7, part l 12 8, part l 12 9, part l 12 10, part l 12 11, true) := by
  unfold totalOf tup13 St
  rw [h]; rfl
theorem total_bad {l : List S32} (h : okB l = false) : totalOf l = (0, 0, 0, 0, 0, 0, 0, 0, 0, 0, 0, 0, false) := by
  unfold totalOf tup13 St
  rw [h]; rfl
theorem total_congr {l m : List S32} (h : ∀ i, i < 12 → col l i = col m i) : totalOf l = totalOf m := by
  have e : okB l = okB m := by
    cases e : okB m with
    | true => exact okB_true (fun i hi => by rw [h i hi]; exact okB_in e i hi)
    | false =>
      cases e' : okB l with
      | false => rfl
      | true =>
        have := okB_true (l := m) (fun i hi => by rw [← h i hi]; exact okB_in e' i hi)
        rw [e] at this; exact absurd this (by simp)
  cases e' : okB m with
  | false => rw [total_bad e', total_bad (e.trans e')]
  | true =>
    rw [total_ok e', total_ok (e.trans e')]
    unfold part
    simp only [h 0 (by omega), h 1 (by omega), h 2 (by omega), h 3 (by omega), h 4 (by omega), h 5 (by omega), h 6 (by omega), h 7 (by omega), h 8 (by omega), h 9 (by omega), h 10 (by omega), h 11 (by omega)]
theorem tot_l1 (l : List S32) (hl : Bs l) (hn : l.length ≤ 1048576) (a : Nat) (ha : a < 12) (c : Nat → Int) (K : Nat) : ∀ (d j : Nat) (p : Int × Int), j + d = l.length → Wd.ok p → Wd.val p = ((colL l a).take j).sum →
    ledger_Total.l1 (d + 1 + K) l (a : Int) (a : Int) l (l.length : Int) (j : Int) (c 0) (c 1) (c 2) (c 3) (c 4) (c 5) (c 6) (c 7) (c 8) (c 9) (c 10) (c 11) p.1 p.2 = if Wd.in64 (col l a) then ledger_Total.l0 K l ((a + 1 : Nat) : Int) (putI (a : Int) 0 (col l a) (c 0)) (putI (a : Int) 1 (col l a) (c 1)) (putI (a : Int) 2 (col l a) (c 2)) (putI (a : Int) 3 (col l a) (c 3)) (putI (a : Int) 4 (col l a) (c 4)) (putI (a : Int) 5 (col l a) (c 5)) (putI (a : Int) 6 (col l a) (c 6)) (putI (a : Int) 7 (col l a) (c 7)) (putI (a : Int) 8 (col l a) (c 8)) (putI (a : Int) 9 (col l a) (c 9)) (putI (a : Int) 10 (col l a) (c 10)) (putI (a : Int) 11 (col l a) (c 11)) else some (0, 0, 0, 0, 0, 0, 0, 0, 0, 0, 0, 0, false) := by
  have hc := hl.col a
  have hcl : (colL l a).length = l.length := by unfold colL; rw [List.length_map]
  intro d
  induction d with
  | zero =>
    intro j p h hp vp
    obtain rfl : j = l.length := by omega
    have np := nar hp
    have ea : wrap64 ((a : Int) + 1) = ((a + 1 : Nat) : Int) := by rw [w64 (by omega) (by omega)]; omega
    rw [List.take_of_length_le (by omega)] at vp
    have vp' : Wd.val p = col l a := vp
    rw [show 0 + 1 + K = K + 1 by omega, ledger_Total.l1, if_neg (by omega)]
    unfold ledger_wide_narrow.f
    simp only [Option.bind_some]
    rw [np.1]
    by_cases c1 : Wd.in64 (Wd.val p)
    · rw [decide_eq_true c1, if_pos rfl, np.2 c1, if_pos (by omega), if_pos (by omega), ea, vp', if_pos (by rw [← vp']; exact c1)]
    · rw [decide_eq_false c1, if_neg (by simp), if_neg (by rw [← vp']; exact c1)]
  | succ d ih =>
    intro j p h hp vp
    have hj : j < (colL l a).length := by omega
    have hx := hc _ (List.getElem_mem hj)
    have e : wrap64 ((j : Int) + 1) = ((j + 1 : Nat) : Int) := by rw [w64 (by omega) (by omega)]; omega
    have hb := sum_bound ((colL l a).take j) (fun x hx => hc x (List.mem_of_mem_take hx))
    rw [List.length_take, ← vp] at hb
    have hpb : Wd.big (Wd.val p) := by unfold Wd.big; omega
    have es := sel_at l j a (by omega)
    unfold nets at es
    rw [show d + 1 + 1 + K = (d + 1 + K) + 1 by omega, ledger_Total.l1, if_pos (by omega), if_pos (by omega), if_pos (by omega), if_pos (by omega), if_pos (by omega), es, e, Wd.pl_f hp]
    simp only [Option.bind_some]
    refine ih (j + 1) (Wd.pl p _) (by omega) (Wd.pl_ok _ _) ?_
    rw [Wd.pl_val hp hx hpb, vp, List.take_succ_eq_append_getElem hj, List.sum_append_int]; simp
theorem tot_l0 (l : List S32) (hl : Bs l) (hn : l.length ≤ 1048576) (m : Nat) : ∀ (d a : Nat), a + d = 12 → (∀ i, i < a → Wd.in64 (col l i)) →
    ledger_Total.l0 (d * (l.length + 2) + 1 + m) l (a : Int) (part l a 0) (part l a 1) (part l a 2) (part l a 3) (part l a 4) (part l a 5) (part l a 6) (part l a 7) (part l a 8) (part l a 9) (part l a 10) (part l a 11) = some (totalOf l) := by
  intro d
  induction d with
  | zero =>
    intro a h hi
    obtain rfl : a = 12 := by omega
    rw [show 0 * (l.length + 2) + 1 + m = m + 1 by omega, ledger_Total.l0, if_neg (by omega), total_ok (okB_true hi)]
  | succ d ih =>
    intro a h hi
    rw [show (d + 1) * (l.length + 2) + 1 + m = (l.length + 1 + (d * (l.length + 2) + 1 + m)) + 1 by rw [Nat.succ_mul]; omega, ledger_Total.l0, if_pos (by omega)]
    rw [show (0 : Int) = ((0 : Nat) : Int) from rfl]
    refine (tot_l1 l hl hn a (by omega) (part l a) (d * (l.length + 2) + 1 + m) l.length 0 (0, 0) (by omega) ⟨by decide, by decide⟩ rfl).trans ?_
    by_cases c : Wd.in64 (col l a)
    · rw [if_pos c]
      simp only [put_part]
      refine ih (a + 1) (by omega) (fun i hi2 => ?_)
      by_cases e : i = a
      · subst e; exact c
      · exact hi i (by omega)
    · rw [if_neg c, total_bad (okB_false a (by omega) c)]
/-- What the program's Total tells. -/
theorem total_true (l : List S32) (hl : Bs l) (hn : l.length ≤ 1048576) (k : Nat) (hk : 12 * (l.length + 2) + 1 ≤ k) : ledger_Total.f k l = some (totalOf l) := by
  obtain ⟨m, rfl⟩ : ∃ m, k = 12 * (l.length + 2) + 1 + m := ⟨k - (12 * (l.length + 2) + 1), by omega⟩
  unfold ledger_Total.f
  exact tot_l0 l hl hn m 12 0 (by omega) (fun i h => by omega)
theorem rtot_l1 (l : List S32) (hl : Bs l) (hn : l.length ≤ 1048576) (a : Nat) (ha : a < 12) (c : Nat → Int) (K : Nat) (hK : l.length < K) : ∀ (d j : Nat), j + d = l.length →
    arrearsref8_Total.l1 (d + 1 + K) l (a : Int) ((colL l a).take j) (j : Int) (c 0) (c 1) (c 2) (c 3) (c 4) (c 5) (c 6) (c 7) (c 8) (c 9) (c 10) (c 11) = if Wd.in64 (col l a) then arrearsref8_Total.l0 K l ((a + 1 : Nat) : Int) (putI (a : Int) 0 (col l a) (c 0)) (putI (a : Int) 1 (col l a) (c 1)) (putI (a : Int) 2 (col l a) (c 2)) (putI (a : Int) 3 (col l a) (c 3)) (putI (a : Int) 4 (col l a) (c 4)) (putI (a : Int) 5 (col l a) (c 5)) (putI (a : Int) 6 (col l a) (c 6)) (putI (a : Int) 7 (col l a) (c 7)) (putI (a : Int) 8 (col l a) (c 8)) (putI (a : Int) 9 (col l a) (c 9)) (putI (a : Int) 10 (col l a) (c 10)) (putI (a : Int) 11 (col l a) (c 11)) else some (0, 0, 0, 0, 0, 0, 0, 0, 0, 0, 0, 0, false) := by
  have hc := hl.col a
  have hcl : (colL l a).length = l.length := by unfold colL; rw [List.length_map]
  intro d
  induction d with
  | zero =>
    intro j h
    obtain rfl : j = l.length := by omega
    have ea : wrap64 ((a : Int) + 1) = ((a + 1 : Nat) : Int) := by rw [w64 (by omega) (by omega)]; omega
    rw [List.take_of_length_le (by omega), show 0 + 1 + K = K + 1 by omega, arrearsref8_Total.l1, if_neg (by omega), pl_Sum _ hc (by omega) K (by omega)]
    simp only [Option.bind_some]
    unfold pl_fits
    by_cases c1 : Wd.in64 (col l a)
    · rw [if_pos (show -9223372036854775808 ≤ (colL l a).sum ∧ (colL l a).sum ≤ 9223372036854775807 from c1), if_pos c1]
      dsimp only
      rw [if_pos rfl, if_pos (by omega), if_pos (by omega), ea]; rfl
    · rw [if_neg (show ¬ (-9223372036854775808 ≤ (colL l a).sum ∧ (colL l a).sum ≤ 9223372036854775807) from c1), if_neg c1]
      dsimp only
      rw [if_neg (by simp)]
  | succ d ih =>
    intro j h
    have hj : j < (colL l a).length := by omega
    have e : wrap64 ((j : Int) + 1) = ((j + 1 : Nat) : Int) := by rw [w64 (by omega) (by omega)]; omega
    have es := sel_at l j a (by omega)
    unfold nets at es
    rw [show d + 1 + 1 + K = (d + 1 + K) + 1 by omega, arrearsref8_Total.l1, if_pos (by omega), if_pos (by omega), if_pos (by omega), if_pos (by omega), if_pos (by rw [List.length_take]; omega), es, e, ← List.take_succ_eq_append_getElem hj]
    exact ih (j + 1) (by omega)
theorem rtot_l0 (l : List S32) (hl : Bs l) (hn : l.length ≤ 1048576) (m : Nat) (hm : l.length ≤ m) : ∀ (d a : Nat), a + d = 12 → (∀ i, i < a → Wd.in64 (col l i)) →
    arrearsref8_Total.l0 (d * (l.length + 2) + 1 + m) l (a : Int) (part l a 0) (part l a 1) (part l a 2) (part l a 3) (part l a 4) (part l a 5) (part l a 6) (part l a 7) (part l a 8) (part l a 9) (part l a 10) (part l a 11) = some (totalOf l) := by
  intro d
  induction d with
  | zero =>
    intro a h hi
    obtain rfl : a = 12 := by omega
    rw [show 0 * (l.length + 2) + 1 + m = m + 1 by omega, arrearsref8_Total.l0, if_neg (by omega), total_ok (okB_true hi)]
  | succ d ih =>
    intro a h hi
    rw [show (d + 1) * (l.length + 2) + 1 + m = (l.length + 1 + (d * (l.length + 2) + 1 + m)) + 1 by rw [Nat.succ_mul]; omega, arrearsref8_Total.l0, if_pos (by omega)]
    rw [show (0 : Int) = ((0 : Nat) : Int) from rfl]
    refine (rtot_l1 l hl hn a (by omega) (part l a) (d * (l.length + 2) + 1 + m) (by omega) l.length 0 (by omega)).trans ?_
    by_cases c : Wd.in64 (col l a)
    · rw [if_pos c]
      simp only [put_part]
      refine ih (a + 1) (by omega) (fun i hi2 => ?_)
      by_cases e : i = a
      · subst e; exact c
      · exact hi i (by omega)
    · rw [if_neg c, total_bad (okB_false a (by omega) c)]
/-- What the document's Total tells. -/
theorem rtotal_true (l : List S32) (hl : Bs l) (hn : l.length ≤ 1048576) (k : Nat) (hk : 13 * (l.length + 2) + 1 ≤ k) : arrearsref8_Total.f k l = some (totalOf l) := by
  obtain ⟨m, rfl⟩ : ∃ m, k = 12 * (l.length + 2) + 1 + m := ⟨k - (12 * (l.length + 2) + 1), by omega⟩
  unfold arrearsref8_Total.f
  exact rtot_l0 l hl hn m (by omega) 12 0 (by omega) (fun i h => by omega)
end Go.Proofs.Ytmppfpdaglkhkaa.Z
