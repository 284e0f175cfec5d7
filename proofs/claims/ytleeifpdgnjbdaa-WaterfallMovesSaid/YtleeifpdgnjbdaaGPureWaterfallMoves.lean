/- WaterfallMoves: of all parts the law's answer is true: Entries and Undo tell the document's moves, one by one. -/
import Derived.Test.YtleeifpdgnjbdaaGx6
import Derived.Test.YtleeifpdgnjbdaaGOpen
namespace Go.Proofs.Ytleeifpdgnjbdaa.G
open Go.RowKit Go.Proofs.YtleeifpdgnjbdaaW.PrintWords Go.Proofs.YtleeifpdgnjbdaaW.PrintLast
set_option linter.unusedVariables false

abbrev Ent := S36
abbrev re := rd_T36
theorem pl_w64 {x : Int} (h0 : -9223372036854775808 ≤ x) (h1 : x ≤ 9223372036854775807) : wrap64 x = x := by unfold wrap64; omega
theorem re_at (l : List Ent) (i : Nat) (h : i < l.length) : re l (i : Int) = l[i] := by unfold re rd_T36; simp [h]
theorem alike_self (l : List Ent) (hl : l.length ≤ 1000) (d : Nat) : ∀ (k i : Nat), i + d = l.length → d < k → arrearslaw9_alike.l0 k l l (i : Int) = some true := by
  induction d with
  | zero =>
    intro k i hi hk
    obtain ⟨k, rfl⟩ : ∃ m, k = m + 1 := ⟨k - 1, by omega⟩
    simp only [arrearslaw9_alike.l0]
    rw [if_neg (by omega)]
  | succ d ih =>
    intro k i hi hk
    obtain ⟨k, rfl⟩ : ∃ m, k = m + 1 := ⟨k - 1, by omega⟩
    simp only [arrearslaw9_alike.l0, if_true]
    rw [if_pos (by omega), if_pos (by omega), if_pos (by omega), pl_w64 (x := (i : Int) + 1) (by omega) (by omega)]
    have e : ((i : Int) + 1) = ((i + 1 : Nat) : Int) := by omega
    rw [e]
    exact ih k (i + 1) (by omega) (by omega)
theorem alike_is (l : List Ent) (hl : l.length ≤ 1000) (k : Nat) (hk : 1000 < k) : arrearslaw9_alike.f k l l = some true := by
  unfold arrearslaw9_alike.f
  rw [if_pos rfl]
  exact alike_self l hl l.length k 0 (by omega) (by omega)
theorem some_loop (l : List Ent) (hl : l.length ≤ 1000) (d : Nat) : ∀ (k i : Nat) (acc : List Ent), i + d = l.length → d < k → acc.length ≤ i →
    waterfall_some.l0 k acc l (l.length : Int) (i : Int) = some (acc ++ (l.drop i).filter (fun x => decide (0 < x.f2))) := by
  induction d with
  | zero =>
    intro k i acc hi hk ha
    obtain ⟨k, rfl⟩ : ∃ m, k = m + 1 := ⟨k - 1, by omega⟩
    simp only [waterfall_some.l0]
    rw [if_neg (by omega), List.drop_eq_nil_of_le (by omega)]; simp
  | succ d ih =>
    intro k i acc hi hk ha
    obtain ⟨k, rfl⟩ : ∃ m, k = m + 1 := ⟨k - 1, by omega⟩
    have e : ((i : Int) + 1) = ((i + 1 : Nat) : Int) := by omega
    have hdr : l.drop i = re l (i : Int) :: l.drop (i + 1) := by rw [re_at l i (by omega)]; exact List.drop_eq_getElem_cons (by omega)
    simp only [waterfall_some.l0]
    rw [if_pos (by omega), if_pos (by omega), if_pos (by omega), pl_w64 (x := (i : Int) + 1) (by omega) (by omega), e, hdr]
    show (if (re l (i : Int)).f2 > 0 then _ else _) = _
    by_cases c : (re l (i : Int)).f2 > 0
    · rw [if_pos c, if_pos (by omega), ih k (i + 1) _ (by omega) (by omega) (by simp; omega)]
      rw [List.filter_cons, if_pos (by simpa using c), List.append_assoc]
      rfl
    · rw [if_neg c, ih k (i + 1) _ (by omega) (by omega) (by omega)]
      rw [List.filter_cons, if_neg (by simpa using c)]
theorem some_is (l : List Ent) (hl : l.length ≤ 1000) (k : Nat) (hk : 1000 < k) : waterfall_some.f k l = some (l.filter (fun x => decide (0 < x.f2))) := by
  unfold waterfall_some.f
  have := some_loop l hl l.length k 0 [] (by omega) (by omega) (by simp)
  simpa using this
/-- The move of one part. -/
def one (a1 a2 : Int) (b : Bool) : List Ent := if a2 ≤ 0 then [] else [if b = true then ⟨a1, 0, a2⟩ else ⟨0, a1, a2⟩]
theorem one_len (a1 a2 : Int) (b : Bool) : (one a1 a2 b).length ≤ 1 := by unfold one; split <;> simp
theorem with_is (l : List Ent) (a1 a2 : Int) (b : Bool) (hl : l.length ≤ 1000) : arrearsref9_with.f l a1 a2 b = some (l ++ one a1 a2 b) := by
  unfold arrearsref9_with.f one
  by_cases c : a2 ≤ 0
  · rw [if_pos c, if_pos c, List.append_nil]
  · rw [if_neg c, if_neg c, if_pos (by omega)]
def mvs (a0 a1 a2 a3 a4 : Int) (b : Bool) : List Ent := one 3 a0 b ++ one 2 a1 b ++ one 1 a2 b ++ one 4 a3 b ++ one 10 a4 b
theorem mvs_len (a0 a1 a2 a3 a4 : Int) (b : Bool) : (mvs a0 a1 a2 a3 a4 b).length ≤ 5 := by
  have h0 := one_len 3 a0 b; have h1 := one_len 2 a1 b; have h2 := one_len 1 a2 b; have h3 := one_len 4 a3 b; have h4 := one_len 10 a4 b
  unfold mvs; simp only [List.length_append]; omega
theorem moves_is (a0 a1 a2 a3 a4 : Int) (b : Bool) : arrearsref9_moves.f a0 a1 a2 a3 a4 b = some (mvs a0 a1 a2 a3 a4 b) := by
  have h0 := one_len 3 a0 b; have h1 := one_len 2 a1 b; have h2 := one_len 1 a2 b; have h3 := one_len 4 a3 b
  unfold arrearsref9_moves.f
  rw [with_is _ _ _ _ (by simp)]; simp only [Option.bind_some, List.nil_append]
  rw [with_is _ _ _ _ (by omega)]; simp only [Option.bind_some]
  rw [with_is _ _ _ _ (by simp only [List.length_append]; omega)]; simp only [Option.bind_some]
  rw [with_is _ _ _ _ (by simp only [List.length_append]; omega)]; simp only [Option.bind_some]
  rw [with_is _ _ _ _ (by simp only [List.length_append]; omega)]; simp only [Option.bind_some]
  rfl
theorem one_filter (a1 a2 : Int) (r : List Ent) : ((⟨0, a1, a2⟩ : Ent) :: r).filter (fun x => decide (0 < x.f2)) = one a1 a2 false ++ r.filter (fun x => decide (0 < x.f2)) := by
  unfold one
  rw [List.filter_cons]
  by_cases c : a2 ≤ 0
  · rw [if_neg (by simpa using c), if_pos c]; rfl
  · rw [if_pos (by simpa using c), if_neg c]; rfl
theorem entries_is (a0 a1 a2 a3 a4 : Int) (k : Nat) (hk : 1000 < k) : waterfall_Entries.f k a0 a1 a2 a3 a4 = some (mvs a0 a1 a2 a3 a4 false) := by
  unfold waterfall_Entries.f waterfall_taken.f
  simp only [Option.bind_some]
  rw [some_is _ (by simp) k hk]
  simp only [Option.bind_some]
  rw [one_filter, one_filter, one_filter, one_filter, one_filter]
  unfold mvs
  simp [List.append_assoc]
theorem one_sw (a1 a2 : Int) : (one a1 a2 false).map waterfall_Undo.sw = one a1 a2 true := by
  unfold one
  by_cases c : a2 ≤ 0
  · rw [if_pos c, if_pos c]; rfl
  · rw [if_neg c, if_neg c]; rfl
theorem undo_is (a0 a1 a2 a3 a4 : Int) (k : Nat) (hk : 1000 < k) : waterfall_Undo.f k a0 a1 a2 a3 a4 = some (mvs a0 a1 a2 a3 a4 true) := by
  unfold waterfall_Undo.f
  rw [entries_is _ _ _ _ _ k hk]
  unfold mvs
  simp only [Option.map_some, List.map_append, one_sw]

def WaterfallMoves_Pure : Prop := ∀ (x0 : S23), (WF23 x0) → ∃ k, arrearslaw9_WaterfallMoves.f k x0.f0 x0.f1 x0.f2 x0.f3 x0.f4 = some true
theorem WaterfallMoves_pure : WaterfallMoves_Pure := by
  intro x _
  refine ⟨2000, ?_⟩
  unfold arrearslaw9_WaterfallMoves.f arrearsref9_Entries.f arrearsref9_Undo.f
  rw [entries_is _ _ _ _ _ 2000 (by omega), moves_is, undo_is _ _ _ _ _ 2000 (by omega), moves_is]
  simp only [Option.bind_some]
  rw [alike_is _ (by have := mvs_len x.f0 x.f1 x.f2 x.f3 x.f4 false; omega) 2000 (by omega), alike_is _ (by have := mvs_len x.f0 x.f1 x.f2 x.f3 x.f4 true; omega) 2000 (by omega)]
  rfl
end Go.Proofs.Ytleeifpdgnjbdaa.G
