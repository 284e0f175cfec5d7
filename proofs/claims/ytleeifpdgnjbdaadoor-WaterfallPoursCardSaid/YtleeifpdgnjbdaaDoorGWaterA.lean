/- Parting an amount by three wants in turn: what the program and the document's answer give is the same. -/
import Derived.Test.YtleeifpdgnjbdaaDoorGx2
import Derived.Test.YtleeifpdgnjbdaaDoorGx4
import Derived.Test.YtleeifpdgnjbdaaDoorGx1
import Derived.Test.YtleeifpdgnjbdaaDoorGx4
import Derived.Test.YtleeifpdgnjbdaaDoorGOpen
namespace Go.Proofs.YtleeifpdgnjbdaaDoor.G
open Go.RowKit Go.Proofs.YtleeifpdgnjbdaaDoorW.PrintWords Go.Proofs.YtleeifpdgnjbdaaDoorW.PrintLast Go.Proofs.YtleeifpdgnjbdaaDoorW.PrintMore
set_option linter.unusedVariables false
set_option linter.unusedSimpArgs false

theorem pl_w64 {x : Int} (h0 : -9223372036854775808 ≤ x) (h1 : x ≤ 9223372036854775807) : wrap64 x = x := by unfold wrap64; omega
theorem six {o : Int} (h0 : 0 ≤ o) (h1 : o < 6) : o = 0 ∨ o = 1 ∨ o = 2 ∨ o = 3 ∨ o = 4 ∨ o = 5 := by omega
/-- The turn that the document tells is the table's. -/
theorem turn_is (o : Int) (h0 : 0 ≤ o) (h1 : o < 6) (j : Nat) (hj : j < 3) (k : Nat) (hk : 10 ≤ k) : arrearsref9_Turn.f k o (j : Int) = some (waterfall_Order.kind o (j : Int)) := by
  obtain ⟨k, rfl⟩ : ∃ m, k = m + 10 := ⟨k - 10, by omega⟩
  have hj' : j = 0 ∨ j = 1 ∨ j = 2 := by omega
  rcases six h0 h1 with rfl | rfl | rfl | rfl | rfl | rfl <;> rcases hj' with rfl | rfl | rfl <;> simp [arrearsref9_Turn.f, arrearsref9_Turn.j0, arrearsref9_Turn.l0, wrap64, waterfall_Order.kind]
theorem turn_bad (o : Int) (h : o < 0 ∨ 6 ≤ o) (p : Int) (k : Nat) : arrearsref9_Turn.f k o p = some (-1) := by
  unfold arrearsref9_Turn.f
  rw [if_neg (by omega), if_neg (by omega), if_neg (by omega), if_neg (by omega), if_neg (by omega), if_neg (by omega)]
/-- What is owed of a kind. -/
def want (F I P : Int) (kind : Int) : Int := if kind = 3 then F else if kind = 2 then I else P
theorem wants_is (F I P kind : Int) : arrearsref9_wants.f F I P kind = some (want F I P kind) := by
  unfold arrearsref9_wants.f want
  split
  · rfl
  · split <;> rfl
/-- What the places get: each in turn, and what is left. -/
def g0 (u a : Int) : Int := mn u a
def g1 (u v a : Int) : Int := mn v (a - g0 u a)
def g2 (u v x a : Int) : Int := mn x (a - g0 u a - g1 u v a)
def g3 (u v x a : Int) : Int := a - g0 u a - g1 u v a - g2 u v x a
theorem mn_range (u a : Int) (hu : 0 ≤ u) (ha : 0 ≤ a) : 0 ≤ mn u a ∧ mn u a ≤ a ∧ mn u a ≤ u := by unfold mn; split <;> omega
theorem g_range (u v x a : Int) (hu : 0 ≤ u) (hv : 0 ≤ v) (hx : 0 ≤ x) (ha : 0 ≤ a) : 0 ≤ g0 u a ∧ g0 u a ≤ u ∧ 0 ≤ g1 u v a ∧ g1 u v a ≤ v ∧ 0 ≤ g2 u v x a ∧ g2 u v x a ≤ x ∧ 0 ≤ g3 u v x a ∧ g0 u a + g1 u v a + g2 u v x a + g3 u v x a = a := by
  have h0 := mn_range u a hu ha
  have h1 := mn_range v (a - g0 u a) hv (by unfold g0; omega)
  have q0 : g0 u a ≤ a := h0.2.1
  have q1 : g1 u v a ≤ a - g0 u a := h1.2.1
  have h2 := mn_range x (a - g0 u a - g1 u v a) hx (by omega)
  unfold g3
  refine ⟨h0.1, h0.2.2, h1.1, h1.2.2, h2.1, h2.2.2, ?_, by omega⟩
  have : g2 u v x a ≤ a - g0 u a - g1 u v a := h2.2.1
  omega
/-- What may be asked for. -/
structure Ok (F I P o a : Int) : Prop where
  hF : 0 ≤ F
  hI : 0 ≤ I
  hP : 0 ≤ P
  h0 : 0 ≤ o
  h1 : o < 6
  ha : 1 ≤ a
  hm : a ≤ 9223372036854775807
theorem want_nn {F I P o a : Int} (H : Ok F I P o a) (kind : Int) : 0 ≤ want F I P kind := by
  obtain ⟨hF, hI, hP, h0, h1, ha, hm⟩ := H
  unfold want; split; exact hF; split; exact hI; exact hP
/-- The document's part of each place. -/
theorem part0 {F I P o a : Int} (H : Ok F I P o a) {k : Nat} (hk : 40 ≤ k) : arrearsref9_part.f k o F I P a 0 = some (g0 (want F I P (waterfall_Order.kind o 0)) a) := by
  obtain ⟨hF, hI, hP, h0, h1, ha, hm⟩ := H
  obtain ⟨k, rfl⟩ : ∃ m, k = m + 2 := ⟨k - 2, by omega⟩
  have t0 : ∀ z : Nat, 10 ≤ z → arrearsref9_Turn.f z o 0 = some (waterfall_Order.kind o 0) := fun z hz => turn_is o h0 h1 0 (by omega) z hz
  simp only [arrearsref9_part.f, arrearsref9_part.l0]
  rw [if_neg (by omega), if_neg (by omega), t0 _ (by omega), Option.bind_some, wants_is, Option.bind_some]
  simp only [arrearsref9_part.j1]
  unfold g0 mn
  by_cases c : a < want F I P (waterfall_Order.kind o 0)
  · rw [decide_eq_true c, if_pos rfl, if_pos c]
  · rw [decide_eq_false c, if_neg (by simp), if_neg c, t0 _ (by omega), Option.bind_some, wants_is]; rfl
theorem part1 {F I P o a : Int} (H : Ok F I P o a) {k : Nat} (hk : 40 ≤ k) : arrearsref9_part.f k o F I P a 1 = some (g1 (want F I P (waterfall_Order.kind o 0)) (want F I P (waterfall_Order.kind o 1)) a) := by
  obtain ⟨hF, hI, hP, h0, h1, ha, hm⟩ := H
  obtain ⟨k, rfl⟩ : ∃ m, k = m + 3 := ⟨k - 3, by omega⟩
  have t0 : ∀ z : Nat, 10 ≤ z → arrearsref9_Turn.f z o 0 = some (waterfall_Order.kind o 0) := fun z hz => turn_is o h0 h1 0 (by omega) z hz
  have t1 : ∀ z : Nat, 10 ≤ z → arrearsref9_Turn.f z o 1 = some (waterfall_Order.kind o 1) := fun z hz => turn_is o h0 h1 1 (by omega) z hz
  have n0 := want_nn ⟨hF, hI, hP, h0, h1, ha, hm⟩ (waterfall_Order.kind o 0)
  have n1 := want_nn ⟨hF, hI, hP, h0, h1, ha, hm⟩ (waterfall_Order.kind o 1)
  generalize hw0 : want F I P (waterfall_Order.kind o 0) = w0 at *
  generalize hw1 : want F I P (waterfall_Order.kind o 1) = w1 at *
  simp only [arrearsref9_part.f, arrearsref9_part.l0]
  rw [if_pos (by omega), t0 _ (by omega), Option.bind_some, wants_is, hw0, Option.bind_some]
  unfold g1 g0
  by_cases c : w0 ≥ a
  · rw [if_pos c]
    have e : mn w0 a = a := by unfold mn; split <;> omega
    have e2 : mn w1 0 = 0 := by unfold mn; split <;> omega
    rw [e, Int.sub_self, e2]
  · have e : mn w0 a = w0 := by unfold mn; split <;> omega
    rw [if_neg c, pl_w64 (x := a - w0) (by omega) (by omega), show wrap64 (0 + 1) = 1 from by unfold wrap64; omega, if_neg (by omega), if_neg (by omega), t1 _ (by omega), Option.bind_some, wants_is, hw1, Option.bind_some, e]
    simp only [arrearsref9_part.j1]
    unfold mn
    by_cases c2 : a - w0 < w1
    · rw [decide_eq_true c2, if_pos rfl, if_pos c2]
    · rw [decide_eq_false c2, if_neg (by simp), if_neg c2, t1 _ (by omega), Option.bind_some, wants_is, hw1]; rfl
theorem part2 {F I P o a : Int} (H : Ok F I P o a) {k : Nat} (hk : 40 ≤ k) : arrearsref9_part.f k o F I P a 2 = some (g2 (want F I P (waterfall_Order.kind o 0)) (want F I P (waterfall_Order.kind o 1)) (want F I P (waterfall_Order.kind o 2)) a) := by
  obtain ⟨hF, hI, hP, h0, h1, ha, hm⟩ := H
  obtain ⟨k, rfl⟩ : ∃ m, k = m + 4 := ⟨k - 4, by omega⟩
  have t0 : ∀ z : Nat, 10 ≤ z → arrearsref9_Turn.f z o 0 = some (waterfall_Order.kind o 0) := fun z hz => turn_is o h0 h1 0 (by omega) z hz
  have t1 : ∀ z : Nat, 10 ≤ z → arrearsref9_Turn.f z o 1 = some (waterfall_Order.kind o 1) := fun z hz => turn_is o h0 h1 1 (by omega) z hz
  have t2 : ∀ z : Nat, 10 ≤ z → arrearsref9_Turn.f z o 2 = some (waterfall_Order.kind o 2) := fun z hz => turn_is o h0 h1 2 (by omega) z hz
  have n0 := want_nn ⟨hF, hI, hP, h0, h1, ha, hm⟩ (waterfall_Order.kind o 0)
  have n1 := want_nn ⟨hF, hI, hP, h0, h1, ha, hm⟩ (waterfall_Order.kind o 1)
  have n2 := want_nn ⟨hF, hI, hP, h0, h1, ha, hm⟩ (waterfall_Order.kind o 2)
  generalize hw0 : want F I P (waterfall_Order.kind o 0) = w0 at *
  generalize hw1 : want F I P (waterfall_Order.kind o 1) = w1 at *
  generalize hw2 : want F I P (waterfall_Order.kind o 2) = w2 at *
  simp only [arrearsref9_part.f, arrearsref9_part.l0]
  rw [if_pos (by omega), t0 _ (by omega), Option.bind_some, wants_is, hw0, Option.bind_some]
  unfold g2 g1 g0
  have z2 : mn w2 0 = 0 := by unfold mn; split <;> omega
  have z1 : mn w1 0 = 0 := by unfold mn; split <;> omega
  by_cases c : w0 ≥ a
  · rw [if_pos c]
    have e : mn w0 a = a := by unfold mn; split <;> omega
    rw [e, Int.sub_self, z1, Int.sub_self, z2]
  · have e : mn w0 a = w0 := by unfold mn; split <;> omega
    rw [if_neg c, pl_w64 (x := a - w0) (by omega) (by omega), show wrap64 (0 + 1) = 1 from by unfold wrap64; omega, if_pos (by omega), t1 _ (by omega), Option.bind_some, wants_is, hw1, Option.bind_some, e]
    by_cases c2 : w1 ≥ a - w0
    · have e1 : mn w1 (a - w0) = a - w0 := by unfold mn; split <;> omega
      rw [if_pos c2, e1, Int.sub_self, z2]
    · have e1 : mn w1 (a - w0) = w1 := by unfold mn; split <;> omega
      rw [if_neg c2, pl_w64 (x := a - w0 - w1) (by omega) (by omega), show wrap64 (1 + 1) = 2 from by unfold wrap64; omega, if_neg (by omega), if_neg (by omega), t2 _ (by omega), Option.bind_some, wants_is, hw2, Option.bind_some, e1]
      simp only [arrearsref9_part.j1]
      unfold mn
      by_cases c3 : a - w0 - w1 < w2
      · rw [decide_eq_true c3, if_pos rfl, if_pos c3]
      · rw [decide_eq_false c3, if_neg (by simp), if_neg c3, t2 _ (by omega), Option.bind_some, wants_is, hw2]; rfl
theorem part3 {F I P o a : Int} (H : Ok F I P o a) {k : Nat} (hk : 40 ≤ k) : arrearsref9_part.f k o F I P a 3 = some (g3 (want F I P (waterfall_Order.kind o 0)) (want F I P (waterfall_Order.kind o 1)) (want F I P (waterfall_Order.kind o 2)) a) := by
  obtain ⟨hF, hI, hP, h0, h1, ha, hm⟩ := H
  obtain ⟨k, rfl⟩ : ∃ m, k = m + 5 := ⟨k - 5, by omega⟩
  have t0 : ∀ z : Nat, 10 ≤ z → arrearsref9_Turn.f z o 0 = some (waterfall_Order.kind o 0) := fun z hz => turn_is o h0 h1 0 (by omega) z hz
  have t1 : ∀ z : Nat, 10 ≤ z → arrearsref9_Turn.f z o 1 = some (waterfall_Order.kind o 1) := fun z hz => turn_is o h0 h1 1 (by omega) z hz
  have t2 : ∀ z : Nat, 10 ≤ z → arrearsref9_Turn.f z o 2 = some (waterfall_Order.kind o 2) := fun z hz => turn_is o h0 h1 2 (by omega) z hz
  have n0 := want_nn ⟨hF, hI, hP, h0, h1, ha, hm⟩ (waterfall_Order.kind o 0)
  have n1 := want_nn ⟨hF, hI, hP, h0, h1, ha, hm⟩ (waterfall_Order.kind o 1)
  have n2 := want_nn ⟨hF, hI, hP, h0, h1, ha, hm⟩ (waterfall_Order.kind o 2)
  generalize hw0 : want F I P (waterfall_Order.kind o 0) = w0 at *
  generalize hw1 : want F I P (waterfall_Order.kind o 1) = w1 at *
  generalize hw2 : want F I P (waterfall_Order.kind o 2) = w2 at *
  simp only [arrearsref9_part.f, arrearsref9_part.l0]
  rw [if_pos (by omega), t0 _ (by omega), Option.bind_some, wants_is, hw0, Option.bind_some]
  unfold g3 g2 g1 g0
  have z2 : mn w2 0 = 0 := by unfold mn; split <;> omega
  have z1 : mn w1 0 = 0 := by unfold mn; split <;> omega
  by_cases c : w0 ≥ a
  · rw [if_pos c]
    have e : mn w0 a = a := by unfold mn; split <;> omega
    rw [e, Int.sub_self, z1, Int.sub_self, z2]; rfl
  · have e : mn w0 a = w0 := by unfold mn; split <;> omega
    rw [if_neg c, pl_w64 (x := a - w0) (by omega) (by omega), show wrap64 (0 + 1) = 1 from by unfold wrap64; omega, if_pos (by omega), t1 _ (by omega), Option.bind_some, wants_is, hw1, Option.bind_some, e]
    by_cases c2 : w1 ≥ a - w0
    · have e1 : mn w1 (a - w0) = a - w0 := by unfold mn; split <;> omega
      rw [if_pos c2, e1, Int.sub_self, z2]; rfl
    · have e1 : mn w1 (a - w0) = w1 := by unfold mn; split <;> omega
      rw [if_neg c2, pl_w64 (x := a - w0 - w1) (by omega) (by omega), show wrap64 (1 + 1) = 2 from by unfold wrap64; omega, if_pos (by omega), t2 _ (by omega), Option.bind_some, wants_is, hw2, Option.bind_some, e1]
      by_cases c3 : w2 ≥ a - w0 - w1
      · have e2 : mn w2 (a - w0 - w1) = a - w0 - w1 := by unfold mn; split <;> omega
        rw [if_pos c3, e2, Int.sub_self]
      · have e2 : mn w2 (a - w0 - w1) = w2 := by unfold mn; split <;> omega
        rw [if_neg c3, pl_w64 (x := a - w0 - w1 - w2) (by omega) (by omega), show wrap64 (2 + 1) = 3 from by unfold wrap64; omega, if_neg (by omega), if_pos trivial, e2]
        simp only [arrearsref9_part.j1]; rfl
/-- The parts by kind. -/
def byKind (o p0 p1 p2 : Int) : Int × Int × Int :=
  if o = 0 then (p0, p1, p2) else if o = 1 then (p0, p2, p1) else if o = 2 then (p1, p0, p2) else if o = 3 then (p2, p0, p1) else if o = 4 then (p1, p2, p0) else (p2, p1, p0)
/-- What Allocate gives where it gives something. -/
def parts (o F I P a : Int) : Int × Int × Int × Int × Int × Int :=
  let u := want F I P (waterfall_Order.kind o 0)
  let v := want F I P (waterfall_Order.kind o 1)
  let x := want F I P (waterfall_Order.kind o 2)
  let q := byKind o (g0 u a) (g1 u v a) (g2 u v x a)
  (q.1, q.2.1, q.2.2, g3 u v x a, 0, 0)
theorem prog_parts {F I P o a : Int} (H : Ok F I P o a) : waterfall_Allocate.f o F I P a = some (parts o F I P a) := by
  obtain ⟨hF, hI, hP, h0, h1, ha, hm⟩ := H
  have n0 := want_nn ⟨hF, hI, hP, h0, h1, ha, hm⟩ (waterfall_Order.kind o 0)
  have n1 := want_nn ⟨hF, hI, hP, h0, h1, ha, hm⟩ (waterfall_Order.kind o 1)
  have n2 := want_nn ⟨hF, hI, hP, h0, h1, ha, hm⟩ (waterfall_Order.kind o 2)
  have gr := g_range _ _ _ a n0 n1 n2 (by omega)
  unfold waterfall_Allocate.f waterfall_Order.f
  rw [if_neg (by omega), if_neg (by omega), Option.bind_some]
  dsimp only
  rw [if_neg (by simp; omega), if_neg (by omega)]
  rcases six h0 h1 with rfl | rfl | rfl | rfl | rfl | rfl <;>
    simp only [waterfall_Allocate.st, waterfall_Allocate.step, waterfall_Order.kind, parts, byKind, want, g0, g1, g2, g3] at gr ⊢ <;>
    simp at gr ⊢ <;>
    (rw [pl_w64 (x := a - mn _ a) (by omega) (by omega), pl_w64 (x := a - mn _ a - mn _ _) (by omega) (by omega), pl_w64 (x := a - mn _ a - mn _ _ - mn _ _) (by omega) (by omega)]; simp)
theorem ref_parts {F I P o a : Int} (H : Ok F I P o a) {k : Nat} (hk : 60 ≤ k) : arrearsref9_Allocate.f k o F I P a = some (parts o F I P a) := by
  obtain ⟨hF, hI, hP, h0, h1, ha, hm⟩ := H
  obtain ⟨k, rfl⟩ : ∃ m, k = m + 6 := ⟨k - 6, by omega⟩
  have t0 : ∀ z : Nat, 10 ≤ z → arrearsref9_Turn.f z o 0 = some (waterfall_Order.kind o 0) := fun z hz => turn_is o h0 h1 0 (by omega) z hz
  have t1 : ∀ z : Nat, 10 ≤ z → arrearsref9_Turn.f z o 1 = some (waterfall_Order.kind o 1) := fun z hz => turn_is o h0 h1 1 (by omega) z hz
  have t2 : ∀ z : Nat, 10 ≤ z → arrearsref9_Turn.f z o 2 = some (waterfall_Order.kind o 2) := fun z hz => turn_is o h0 h1 2 (by omega) z hz
  have q0 := fun (z : Nat) (hz : 40 ≤ z) => part0 ⟨hF, hI, hP, h0, h1, ha, hm⟩ (k := z) hz
  have q1 := fun (z : Nat) (hz : 40 ≤ z) => part1 ⟨hF, hI, hP, h0, h1, ha, hm⟩ (k := z) hz
  have q2 := fun (z : Nat) (hz : 40 ≤ z) => part2 ⟨hF, hI, hP, h0, h1, ha, hm⟩ (k := z) hz
  have q3 := fun (z : Nat) (hz : 40 ≤ z) => part3 ⟨hF, hI, hP, h0, h1, ha, hm⟩ (k := z) hz
  unfold arrearsref9_Allocate.f parts
  rw [t0 _ (by omega), Option.bind_some]
  have kp : 0 ≤ waterfall_Order.kind o 0 := by rcases six h0 h1 with rfl | rfl | rfl | rfl | rfl | rfl <;> decide
  rw [if_neg (by omega), if_neg (by omega), if_neg (by omega), decide_eq_false (show ¬ P < 0 by omega)]
  simp only [arrearsref9_Allocate.j0]
  rw [if_neg (by simp), if_neg (by omega)]
  simp only [arrearsref9_Allocate.l0]
  simp only [show wrap64 (0 + 1) = 1 from by unfold wrap64; omega, show wrap64 (1 + 1) = 2 from by unfold wrap64; omega, show wrap64 (2 + 1) = 3 from by unfold wrap64; omega]
  rw [q0 _ (by omega), q1 _ (by omega), q2 _ (by omega), q3 _ (by omega), t0 _ (by omega), t1 _ (by omega), t2 _ (by omega)]
  rcases six h0 h1 with rfl | rfl | rfl | rfl | rfl | rfl <;> simp [waterfall_Order.kind, byKind]
theorem prog_bad (o F I P a : Int) (h : o < 0 ∨ 6 ≤ o ∨ F < 0 ∨ I < 0 ∨ P < 0) : waterfall_Allocate.f o F I P a = some (0, 0, 0, 0, 0, 2) := by
  unfold waterfall_Allocate.f waterfall_Order.f
  rw [Option.bind_some]
  split
  · rw [if_pos (.inl rfl)]
  · split
    · rw [if_pos (.inl rfl)]
    · rw [if_pos (.inr (by omega))]
theorem prog_small (o F I P a : Int) (h0 : 0 ≤ o) (h1 : o < 6) (hF : 0 ≤ F) (hI : 0 ≤ I) (hP : 0 ≤ P) (ha : a < 1) : waterfall_Allocate.f o F I P a = some (0, 0, 0, 0, 0, 4) := by
  unfold waterfall_Allocate.f waterfall_Order.f
  rw [if_neg (by omega), if_neg (by omega), Option.bind_some]
  dsimp only
  rw [if_neg (by simp; omega), if_pos ha]
theorem ref_bad (o F I P a : Int) (h : o < 0 ∨ 6 ≤ o ∨ F < 0 ∨ I < 0 ∨ P < 0) (k : Nat) (hk : 60 ≤ k) : arrearsref9_Allocate.f k o F I P a = some (0, 0, 0, 0, 0, 2) := by
  obtain ⟨k, rfl⟩ : ∃ m, k = m + 1 := ⟨k - 1, by omega⟩
  unfold arrearsref9_Allocate.f
  by_cases c : o < 0 ∨ 6 ≤ o
  · rw [turn_bad o c, Option.bind_some, if_pos (by omega)]; simp only [arrearsref9_Allocate.j0]; rfl
  · have t0 := turn_is o (by omega) (by omega) 0 (by omega) (k + 1) (by omega)
    have kp : 0 ≤ waterfall_Order.kind o 0 := by rcases six (o := o) (by omega) (by omega) with rfl | rfl | rfl | rfl | rfl | rfl <;> decide
    have t0 : arrearsref9_Turn.f (k + 1) o 0 = some (waterfall_Order.kind o 0) := t0
    rw [t0, Option.bind_some, if_neg (by omega)]
    by_cases c1 : F < 0
    · rw [if_pos c1]; simp only [arrearsref9_Allocate.j0]; rfl
    · rw [if_neg c1]
      by_cases c2 : I < 0
      · rw [if_pos c2]; simp only [arrearsref9_Allocate.j0]; rfl
      · rw [if_neg c2, decide_eq_true (show P < 0 by omega)]; simp only [arrearsref9_Allocate.j0]; rfl
theorem ref_small (o F I P a : Int) (h0 : 0 ≤ o) (h1 : o < 6) (hF : 0 ≤ F) (hI : 0 ≤ I) (hP : 0 ≤ P) (ha : a < 1) (k : Nat) (hk : 60 ≤ k) : arrearsref9_Allocate.f k o F I P a = some (0, 0, 0, 0, 0, 4) := by
  obtain ⟨k, rfl⟩ : ∃ m, k = m + 1 := ⟨k - 1, by omega⟩
  unfold arrearsref9_Allocate.f
  have t0 := turn_is o h0 h1 0 (by omega) (k + 1) (by omega)
  have t0 : arrearsref9_Turn.f (k + 1) o 0 = some (waterfall_Order.kind o 0) := t0
  have kp : 0 ≤ waterfall_Order.kind o 0 := by rcases six h0 h1 with rfl | rfl | rfl | rfl | rfl | rfl <;> decide
  rw [t0, Option.bind_some, if_neg (by omega), if_neg (by omega), if_neg (by omega), decide_eq_false (show ¬ P < 0 by omega)]
  simp only [arrearsref9_Allocate.j0]
  rw [if_neg (by simp), if_pos ha]
theorem equal_self (a b c d e : Int) : arrearslaw9_equal.f a b c d e a b c d e = some true := by
  unfold arrearslaw9_equal.f
  simp
end Go.Proofs.YtleeifpdgnjbdaaDoor.G
