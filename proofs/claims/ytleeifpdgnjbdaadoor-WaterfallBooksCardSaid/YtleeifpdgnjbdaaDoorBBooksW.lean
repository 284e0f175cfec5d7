/- Plain facts: what Allocate gives, and the moves of Entries and Undo. No condition. -/
import Derived.Test.YtleeifpdgnjbdaaDoorBx1
import Derived.Test.YtleeifpdgnjbdaaDoorBx5
import Derived.Test.YtleeifpdgnjbdaaDoorBx4
import Derived.Test.YtleeifpdgnjbdaaDoorBOpen
namespace Go.Proofs.YtleeifpdgnjbdaaDoor.B
open Go.RowKit Go.Proofs.YtleeifpdgnjbdaaDoorW.PrintWords Go.Proofs.YtleeifpdgnjbdaaDoorW.PrintLast Go.Proofs.YtleeifpdgnjbdaaDoorW.PrintMore
set_option linter.unusedVariables false
set_option linter.unusedSimpArgs false
theorem pl_w64 {x : Int} (h0 : -9223372036854775808 ≤ x) (h1 : x ≤ 9223372036854775807) : wrap64 x = x := by unfold wrap64; omega
theorem six {o : Int} (h0 : 0 ≤ o) (h1 : o < 6) : o = 0 ∨ o = 1 ∨ o = 2 ∨ o = 3 ∨ o = 4 ∨ o = 5 := by omega
/-- What is owed of a kind. -/
def want (F I P : Int) (kind : Int) : Int := if kind = 3 then F else if kind = 2 then I else P
/-- What the places get: each in turn, and what is left. -/
def g0 (u a : Int) : Int := mn u a
def g1 (u v a : Int) : Int := mn v (a - g0 u a)
def g2 (u v x a : Int) : Int := mn x (a - g0 u a - g1 u v a)
def g3 (u v x a : Int) : Int := a - g0 u a - g1 u v a - g2 u v x a
theorem mn_range (u a : Int) (hu : 0 ≤ u) (ha : 0 ≤ a) : 0 ≤ mn u a ∧ mn u a ≤ a ∧ mn u a ≤ u := by unfold mn; split <;> omega
theorem g_range (u v x a : Int) (hu : 0 ≤ u) (hv : 0 ≤ v) (hx : 0 ≤ x) (ha : 0 ≤ a) : 0 ≤ g0 u a ∧ g0 u a ≤ u ∧ 0 ≤ g1 u v a ∧ g1 u v a ≤ v ∧ 0 ≤ g2 u v x a ∧ g2 u v x a ≤ x ∧ 0 ≤ g3 u v x a ∧ g0 u a + g1 u v a + g2 u v x a + g3 u v x a = a := by
  have h0 := mn_range u a hu ha
  have h1 := mn_range v (a - g0 u a) hv (by unfold g0; omega)
  have q0 : g0 u a ≤ a := h0.2.1
  have q1 : g1 u v a ≤ a - g0 u a := h1.2.1
  have h2 := mn_range x (a - g0 u a - g1 u v a) hx (by omega)
  unfold g3
  refine ⟨h0.1, h0.2.2, h1.1, h1.2.2, h2.1, h2.2.2, ?_, by omega⟩
  have : g2 u v x a ≤ a - g0 u a - g1 u v a := h2.2.1
  omega
/-- What may be asked for. -/
structure Ok (F I P o a : Int) : Prop where
  hF : 0 ≤ F
  hI : 0 ≤ I
  hP : 0 ≤ P
  h0 : 0 ≤ o
  h1 : o < 6
  ha : 1 ≤ a
  hm : a ≤ 9223372036854775807
theorem want_nn {F I P o a : Int} (H : Ok F I P o a) (kind : Int) : 0 ≤ want F I P kind := by
  obtain ⟨hF, hI, hP, h0, h1, ha, hm⟩ := H
  unfold want; split; exact hF; split; exact hI; exact hP
/-- The parts by kind. -/
def byKind (o p0 p1 p2 : Int) : Int × Int × Int :=
  if o = 0 then (p0, p1, p2) else if o = 1 then (p0, p2, p1) else if o = 2 then (p1, p0, p2) else if o = 3 then (p2, p0, p1) else if o = 4 then (p1, p2, p0) else (p2, p1, p0)
/-- What Allocate gives where it gives something. -/
def parts (o F I P a : Int) : Int × Int × Int × Int × Int × Int :=
  let u := want F I P (waterfall_Order.kind o 0)
  let v := want F I P (waterfall_Order.kind o 1)
  let x := want F I P (waterfall_Order.kind o 2)
  let q := byKind o (g0 u a) (g1 u v a) (g2 u v x a)
  (q.1, q.2.1, q.2.2, g3 u v x a, 0, 0)
theorem prog_parts {F I P o a : Int} (H : Ok F I P o a) : waterfall_Allocate.f o F I P a = some (parts o F I P a) := by
  obtain ⟨hF, hI, hP, h0, h1, ha, hm⟩ := H
  have n0 := want_nn ⟨hF, hI, hP, h0, h1, ha, hm⟩ (waterfall_Order.kind o 0)
  have n1 := want_nn ⟨hF, hI, hP, h0, h1, ha, hm⟩ (waterfall_Order.kind o 1)
  have n2 := want_nn ⟨hF, hI, hP, h0, h1, ha, hm⟩ (waterfall_Order.kind o 2)
  have gr := g_range _ _ _ a n0 n1 n2 (by omega)
  unfold waterfall_Allocate.f waterfall_Order.f
  rw [if_neg (by omega), if_neg (by omega), Option.bind_some]
  dsimp only
  rw [if_neg (by simp; omega), if_neg (by omega)]
  rcases six h0 h1 with rfl | rfl | rfl | rfl | rfl | rfl <;>
    simp only [waterfall_Allocate.st, waterfall_Allocate.step, waterfall_Order.kind, parts, byKind, want, g0, g1, g2, g3] at gr ⊢ <;>
    simp at gr ⊢ <;>
    (rw [pl_w64 (x := a - mn _ a) (by omega) (by omega), pl_w64 (x := a - mn _ a - mn _ _) (by omega) (by omega), pl_w64 (x := a - mn _ a - mn _ _ - mn _ _) (by omega) (by omega)]; simp)
abbrev Ent := S63
abbrev re := rd_T63
theorem re_at (l : List Ent) (i : Nat) (h : i < l.length) : re l (i : Int) = l[i] := by unfold re rd_T63; simp [h]
theorem some_loop (l : List Ent) (hl : l.length ≤ 1000) (d : Nat) : ∀ (k i : Nat) (acc : List Ent), i + d = l.length → d < k → acc.length ≤ i →
    waterfall_some.l0 k acc l (l.length : Int) (i : Int) = some (acc ++ (l.drop i).filter (fun x => decide (0 < x.f2))) := by
  induction d with
  | zero =>
    intro k i acc hi hk ha
    obtain ⟨k, rfl⟩ : ∃ m, k = m + 1 := ⟨k - 1, by omega⟩
    simp only [waterfall_some.l0]
    rw [if_neg (by omega), List.drop_eq_nil_of_le (by omega)]; simp
  | succ d ih =>
    intro k i acc hi hk ha
    obtain ⟨k, rfl⟩ : ∃ m, k = m + 1 := ⟨k - 1, by omega⟩
    have e : ((i : Int) + 1) = ((i + 1 : Nat) : Int) := by omega
    have hdr : l.drop i = re l (i : Int) :: l.drop (i + 1) := by rw [re_at l i (by omega)]; exact List.drop_eq_getElem_cons (by omega)
    simp only [waterfall_some.l0]
    rw [if_pos (by omega), if_pos (by omega), if_pos (by omega), pl_w64 (x := (i : Int) + 1) (by omega) (by omega), e, hdr]
    show (if (re l (i : Int)).f2 > 0 then _ else _) = _
    by_cases c : (re l (i : Int)).f2 > 0
    · rw [if_pos c, if_pos (by omega), ih k (i + 1) _ (by omega) (by omega) (by simp; omega)]
      rw [List.filter_cons, if_pos (by simpa using c), List.append_assoc]
      rfl
    · rw [if_neg c, ih k (i + 1) _ (by omega) (by omega) (by omega)]
      rw [List.filter_cons, if_neg (by simpa using c)]
theorem some_is (l : List Ent) (hl : l.length ≤ 1000) (k : Nat) (hk : 1000 < k) : waterfall_some.f k l = some (l.filter (fun x => decide (0 < x.f2))) := by
  unfold waterfall_some.f
  have := some_loop l hl l.length k 0 [] (by omega) (by omega) (by simp)
  simpa using this
/-- The move of one part. -/
def one (a1 a2 : Int) (b : Bool) : List Ent := if a2 ≤ 0 then [] else [if b = true then ⟨a1, 0, a2⟩ else ⟨0, a1, a2⟩]
theorem one_len (a1 a2 : Int) (b : Bool) : (one a1 a2 b).length ≤ 1 := by unfold one; split <;> simp
def mvs (a0 a1 a2 a3 a4 : Int) (b : Bool) : List Ent := one 3 a0 b ++ one 2 a1 b ++ one 1 a2 b ++ one 4 a3 b ++ one 10 a4 b
theorem mvs_len (a0 a1 a2 a3 a4 : Int) (b : Bool) : (mvs a0 a1 a2 a3 a4 b).length ≤ 5 := by
  have h0 := one_len 3 a0 b; have h1 := one_len 2 a1 b; have h2 := one_len 1 a2 b; have h3 := one_len 4 a3 b; have h4 := one_len 10 a4 b
  unfold mvs; simp only [List.length_append]; omega
theorem one_filter (a1 a2 : Int) (r : List Ent) : ((⟨0, a1, a2⟩ : Ent) :: r).filter (fun x => decide (0 < x.f2)) = one a1 a2 false ++ r.filter (fun x => decide (0 < x.f2)) := by
  unfold one
  rw [List.filter_cons]
  by_cases c : a2 ≤ 0
  · rw [if_neg (by simpa using c), if_pos c]; rfl
  · rw [if_pos (by simpa using c), if_neg c]; rfl
theorem entries_is (a0 a1 a2 a3 a4 : Int) (k : Nat) (hk : 1000 < k) : waterfall_Entries.f k a0 a1 a2 a3 a4 = some (mvs a0 a1 a2 a3 a4 false) := by
  unfold waterfall_Entries.f waterfall_taken.f
  simp only [Option.bind_some]
  rw [some_is _ (by simp) k hk]
  simp only [Option.bind_some]
  rw [one_filter, one_filter, one_filter, one_filter, one_filter]
  unfold mvs
  simp [List.append_assoc]
theorem one_sw (a1 a2 : Int) : (one a1 a2 false).map waterfall_Undo.sw = one a1 a2 true := by
  unfold one
  by_cases c : a2 ≤ 0
  · rw [if_pos c, if_pos c]; rfl
  · rw [if_neg c, if_neg c]; rfl
theorem undo_is (a0 a1 a2 a3 a4 : Int) (k : Nat) (hk : 1000 < k) : waterfall_Undo.f k a0 a1 a2 a3 a4 = some (mvs a0 a1 a2 a3 a4 true) := by
  unfold waterfall_Undo.f
  rw [entries_is _ _ _ _ _ k hk]
  unfold mvs
  simp only [Option.map_some, List.map_append, one_sw]

end Go.Proofs.YtleeifpdgnjbdaaDoor.B
