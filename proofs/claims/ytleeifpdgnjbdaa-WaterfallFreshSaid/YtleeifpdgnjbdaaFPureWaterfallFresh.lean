/- The lists of a payment's moves share no memory: what is written into one, or behind it, is seen in no other. No condition. -/
import Derived.Test.YtleeifpdgnjbdaaFx4
import Derived.Test.YtleeifpdgnjbdaaFOpen
namespace Go.Proofs.Ytleeifpdgnjbdaa.F
open Go.RowKit Go.Proofs.YtleeifpdgnjbdaaW.PrintWords Go.Proofs.YtleeifpdgnjbdaaW.PrintLast Go.Proofs.YtleeifpdgnjbdaaW.PrintMore
set_option linter.unusedVariables false
set_option linter.unusedSimpArgs false
abbrev Ent := S36
abbrev re := rd_T36
theorem pl_w64 {x : Int} (h0 : -9223372036854775808 ≤ x) (h1 : x ≤ 9223372036854775807) : wrap64 x = x := by unfold wrap64; omega
theorem re_at (l : List Ent) (i : Nat) (h : i < l.length) : re l (i : Int) = l[i] := by unfold re rd_T36; simp [h]
theorem alike_self (l : List Ent) (hl : l.length ≤ 1000) (d : Nat) : ∀ (k i : Nat), i + d = l.length → d < k → arrearslaw9_alike.l0 k l l (i : Int) = some true := by
  induction d with
  | zero =>
    intro k i hi hk
    obtain ⟨k, rfl⟩ : ∃ m, k = m + 1 := ⟨k - 1, by omega⟩
    simp only [arrearslaw9_alike.l0]
    rw [if_neg (by omega)]
  | succ d ih =>
    intro k i hi hk
    obtain ⟨k, rfl⟩ : ∃ m, k = m + 1 := ⟨k - 1, by omega⟩
    simp only [arrearslaw9_alike.l0, if_true]
    rw [if_pos (by omega), if_pos (by omega), if_pos (by omega), pl_w64 (x := (i : Int) + 1) (by omega) (by omega)]
    have e : ((i : Int) + 1) = ((i + 1 : Nat) : Int) := by omega
    rw [e]
    exact ih k (i + 1) (by omega) (by omega)
theorem alike_is (l : List Ent) (hl : l.length ≤ 1000) (k : Nat) (hk : 1000 < k) : arrearslaw9_alike.f k l l = some true := by
  unfold arrearslaw9_alike.f
  rw [if_pos rfl]
  exact alike_self l hl l.length k 0 (by omega) (by omega)
theorem some_loop (l : List Ent) (hl : l.length ≤ 1000) (d : Nat) : ∀ (k i : Nat) (acc : List Ent), i + d = l.length → d < k → acc.length ≤ i →
    waterfall_some.l0 k acc l (l.length : Int) (i : Int) = some (acc ++ (l.drop i).filter (fun x => decide (0 < x.f2))) := by
  induction d with
  | zero =>
    intro k i acc hi hk ha
    obtain ⟨k, rfl⟩ : ∃ m, k = m + 1 := ⟨k - 1, by omega⟩
    simp only [waterfall_some.l0]
    rw [if_neg (by omega), List.drop_eq_nil_of_le (by omega)]; simp
  | succ d ih =>
    intro k i acc hi hk ha
    obtain ⟨k, rfl⟩ : ∃ m, k = m + 1 := ⟨k - 1, by omega⟩
    have e : ((i : Int) + 1) = ((i + 1 : Nat) : Int) := by omega
    have hdr : l.drop i = re l (i : Int) :: l.drop (i + 1) := by rw [re_at l i (by omega)]; exact List.drop_eq_getElem_cons (by omega)
    simp only [waterfall_some.l0]
    rw [if_pos (by omega), if_pos (by omega), if_pos (by omega), pl_w64 (x := (i : Int) + 1) (by omega) (by omega), e, hdr]
    show (if (re l (i : Int)).f2 > 0 then _ else _) = _
    by_cases c : (re l (i : Int)).f2 > 0
    · rw [if_pos c, if_pos (by omega), ih k (i + 1) _ (by omega) (by omega) (by simp; omega)]
      rw [List.filter_cons, if_pos (by simpa using c), List.append_assoc]
      rfl
    · rw [if_neg c, ih k (i + 1) _ (by omega) (by omega) (by omega)]
      rw [List.filter_cons, if_neg (by simpa using c)]
theorem some_is (l : List Ent) (hl : l.length ≤ 1000) (k : Nat) (hk : 1000 < k) : waterfall_some.f k l = some (l.filter (fun x => decide (0 < x.f2))) := by
  unfold waterfall_some.f
  have := some_loop l hl l.length k 0 [] (by omega) (by omega) (by simp)
  simpa using this
/-- The move of one part. -/
def one (a1 a2 : Int) (b : Bool) : List Ent := if a2 ≤ 0 then [] else [if b = true then ⟨a1, 0, a2⟩ else ⟨0, a1, a2⟩]
theorem one_len (a1 a2 : Int) (b : Bool) : (one a1 a2 b).length ≤ 1 := by unfold one; split <;> simp
def mvs (a0 a1 a2 a3 a4 : Int) (b : Bool) : List Ent := one 3 a0 b ++ one 2 a1 b ++ one 1 a2 b ++ one 4 a3 b ++ one 10 a4 b
theorem mvs_len (a0 a1 a2 a3 a4 : Int) (b : Bool) : (mvs a0 a1 a2 a3 a4 b).length ≤ 5 := by
  have h0 := one_len 3 a0 b; have h1 := one_len 2 a1 b; have h2 := one_len 1 a2 b; have h3 := one_len 4 a3 b; have h4 := one_len 10 a4 b
  unfold mvs; simp only [List.length_append]; omega
theorem one_filter (a1 a2 : Int) (r : List Ent) : ((⟨0, a1, a2⟩ : Ent) :: r).filter (fun x => decide (0 < x.f2)) = one a1 a2 false ++ r.filter (fun x => decide (0 < x.f2)) := by
  unfold one
  rw [List.filter_cons]
  by_cases c : a2 ≤ 0
  · rw [if_neg (by simpa using c), if_pos c]; rfl
  · rw [if_pos (by simpa using c), if_neg c]; rfl
theorem entries_is (a0 a1 a2 a3 a4 : Int) (k : Nat) (hk : 1000 < k) : waterfall_Entries.f k a0 a1 a2 a3 a4 = some (mvs a0 a1 a2 a3 a4 false) := by
  unfold waterfall_Entries.f waterfall_taken.f
  simp only [Option.bind_some]
  rw [some_is _ (by simp) k hk]
  simp only [Option.bind_some]
  rw [one_filter, one_filter, one_filter, one_filter, one_filter]
  unfold mvs
  simp [List.append_assoc]
theorem one_sw (a1 a2 : Int) : (one a1 a2 false).map waterfall_Undo.sw = one a1 a2 true := by
  unfold one
  by_cases c : a2 ≤ 0
  · rw [if_pos c, if_pos c]; rfl
  · rw [if_neg c, if_neg c]; rfl
theorem undo_is (a0 a1 a2 a3 a4 : Int) (k : Nat) (hk : 1000 < k) : waterfall_Undo.f k a0 a1 a2 a3 a4 = some (mvs a0 a1 a2 a3 a4 true) := by
  unfold waterfall_Undo.f
  rw [entries_is _ _ _ _ _ k hk]
  unfold mvs
  simp only [Option.map_some, List.map_append, one_sw]

def cnt (x : Int) : Int := if x > 0 then 1 else 0
theorem one_cnt (c x : Int) (b : Bool) : ((one c x b).length : Int) = cnt x := by
  unfold one
  by_cases h : x ≤ 0
  · rw [if_pos h, show cnt x = 0 from if_neg (by omega)]; rfl
  · rw [if_neg h, show cnt x = 1 from if_pos (by omega)]; rfl
theorem mvs_cnt (a0 a1 a2 a3 a4 : Int) (b : Bool) : ((mvs a0 a1 a2 a3 a4 b).length : Int) = 0 + cnt a0 + cnt a1 + cnt a2 + cnt a3 + cnt a4 := by
  have h0 := one_cnt 3 a0 b; have h1 := one_cnt 2 a1 b; have h2 := one_cnt 1 a2 b; have h3 := one_cnt 4 a3 b; have h4 := one_cnt 10 a4 b
  unfold mvs; simp only [List.length_append]; omega
theorem cnt_step {α : Type} (F : Int → α) (x n : Int) (h0 : 0 ≤ n) (h1 : n ≤ 100) : (if x > 0 then F (wrap64 (n + 1)) else F n) = F (n + cnt x) := by
  unfold cnt
  by_cases c : x > 0
  · rw [if_pos c, if_pos c, pl_w64 (by omega) (by omega)]
  · rw [if_neg c, if_neg c, Int.add_zero]
theorem cnt_in (x : Int) : 0 ≤ cnt x ∧ cnt x ≤ 1 := by unfold cnt; split <;> omega
theorem set_mark (E : List Ent) (m : Ent) (i : Nat) (h : i < E.length) : (List.replicate i m ++ E.drop i).set i m = List.replicate (i + 1) m ++ E.drop (i + 1) := by
  rw [List.set_append_right _ _ (by simp), List.length_replicate, Nat.sub_self, List.drop_eq_getElem_cons h, List.set_cons_zero, List.replicate_succ', List.append_assoc]; rfl
theorem mark_len (E : List Ent) (m : Ent) (i : Nat) (h : i ≤ E.length) : (List.replicate i m ++ E.drop i).length = E.length := by simp; omega
theorem re_rep (n : Nat) (m : Ent) (i : Nat) (h : i < n) : re (List.replicate n m) (i : Int) = m := by rw [re_at _ i (by simpa using h)]; simp
theorem gone_end (l : List Ent) (a : Int) (M : List Ent) (hM : M.length = 64) (hl : l.length ≤ 1000) (R : Nat) (hR : 1001 < R) : arrearslaw9_goneOn.l0 (R + 1) l a M (64 : Int) = some true := by
  have e : (l ++ M).drop l.length = M := List.drop_left
  have hw : wrap64 ((l.length : Int) + 64) = (l.length : Int) + 64 := pl_w64 (by omega) (by omega)
  have hn : (l ++ M).length = l.length + 64 := by rw [List.length_append, hM]
  have ha := alike_is M (by omega) R (by omega)
  have h1 : (((l.length + 64 : Nat) : Int)) = (l.length : Int) + 64 := by omega
  rw [arrearslaw9_goneOn.l0, if_neg (by omega), if_pos (by omega), Option.bind_some, hw, hn, if_pos h1, if_pos (by omega), if_pos (by omega), Int.toNat_natCast, e, ha, Option.bind_some]
theorem gone_loop (l : List Ent) (a : Int) (hl : l.length ≤ 1000) (R : Nat) (hR : 1001 < R) : ∀ (d i : Nat), i + d = 64 → ∀ M : List Ent, M.length = i → arrearslaw9_goneOn.l0 (d + 1 + R) l a M (i : Int) = some true := by
  intro d
  induction d with
  | zero =>
    intro i h M hM
    rw [show 0 + 1 + R = R + 1 by omega, show (i : Int) = 64 by omega]
    exact gone_end l a M (by omega) hl R hR
  | succ d ih =>
    intro i h M hM
    rw [show d + 1 + 1 + R = (d + 1 + R) + 1 by omega, arrearslaw9_goneOn.l0, if_pos (by omega), if_pos (by omega), pl_w64 (x := (i : Int) + 1) (by omega) (by omega), show (i : Int) + 1 = ((i + 1 : Nat) : Int) by omega]
    exact ih (i + 1) (by omega) _ (by rw [List.length_append, List.length_singleton, hM])
theorem gone_true (l : List Ent) (a : Int) (hl : l.length ≤ 1000) (k : Nat) (hk : 1100 ≤ k) : arrearslaw9_goneOn.f k l a = some (true, l) := by
  obtain ⟨R, rfl⟩ : ∃ R, k = 64 + 1 + R := ⟨k - 65, by omega⟩
  have h : arrearslaw9_goneOn.l0 (64 + 1 + R) l a [] 0 = some true := gone_loop l a hl R (by omega) 64 0 (by omega) [] rfl
  unfold arrearslaw9_goneOn.f
  rw [h, Option.bind_some]
section
variable (a0 a1 a2 a3 a4 : Int) (U E2 : List Ent)
abbrev mA : Ent := ⟨-1, -2, -3⟩
abbrev mC : Ent := ⟨-5, -6, -7⟩
abbrev mD : Ent := ⟨-8, -9, -10⟩
theorem fr_l4 (E : List Ent) (hE : E = mvs a0 a1 a2 a3 a4 false) (K : Nat) (hK : 2100 ≤ K) : ∀ (d i : Nat), i + d = E.length →
    arrearslaw9_WaterfallFresh.l4 (d + 1 + K) (List.replicate E.length mA) (List.replicate E.length mC) (E.length : Int) E (i : Int) a0 a1 a2 a3 a4 = some true := by
  have hl : E.length ≤ 5 := by rw [hE]; exact mvs_len _ _ _ _ _ _
  intro d
  induction d with
  | zero =>
    intro i h
    obtain rfl : i = E.length := by omega
    rw [show 0 + 1 + K = K + 1 by omega, arrearslaw9_WaterfallFresh.l4, if_neg (by omega), entries_is _ _ _ _ _ _ (by omega), ← hE]
    simp only [Option.bind_some]
    rw [alike_is _ (by omega) K (by omega)]; rfl
  | succ d ih =>
    intro i h
    have r1 := re_rep E.length mA i (by omega)
    have r2 := re_rep E.length mC i (by omega)
    unfold re at r1 r2
    rw [show d + 1 + 1 + K = (d + 1 + K) + 1 by omega, arrearslaw9_WaterfallFresh.l4, if_pos (by omega), if_pos (by omega), if_pos (by rw [List.length_replicate]; omega), r1, if_pos rfl, if_pos (by rw [List.length_replicate]; omega), r2, if_pos rfl, pl_w64 (x := (i : Int) + 1) (by omega) (by omega), show (i : Int) + 1 = ((i + 1 : Nat) : Int) by omega]
    exact ih (i + 1) (by omega)
theorem fr_l3 (E : List Ent) (hE : E = mvs a0 a1 a2 a3 a4 false) (hU : U.length ≤ 5) (K : Nat) (hK : 2200 ≤ K) : ∀ (d i : Nat), i + d = U.length →
    arrearslaw9_WaterfallFresh.l3 (d + 1 + K) (List.replicate E.length mA) U (List.replicate E.length mC) (List.replicate U.length mD) (E.length : Int) E U (i : Int) a0 a1 a2 a3 a4 = some true := by
  have hl : E.length ≤ 5 := by rw [hE]; exact mvs_len _ _ _ _ _ _
  intro d
  induction d with
  | zero =>
    intro i h
    obtain rfl : i = U.length := by omega
    obtain ⟨m, rfl⟩ : ∃ m, K = E.length + 1 + m := ⟨K - (E.length + 1), by omega⟩
    rw [show 0 + 1 + (E.length + 1 + m) = (E.length + 1 + m) + 1 by omega, arrearslaw9_WaterfallFresh.l3, if_neg (by omega)]
    exact fr_l4 a0 a1 a2 a3 a4 E hE m (by omega) E.length 0 (by omega)
  | succ d ih =>
    intro i h
    have r1 := re_rep U.length mD i (by omega)
    unfold re at r1
    rw [show d + 1 + 1 + K = (d + 1 + K) + 1 by omega, arrearslaw9_WaterfallFresh.l3, if_pos (by omega), if_pos (by omega), if_pos (by omega), if_neg (by simp), if_pos (by rw [List.length_replicate]; omega), r1, if_pos rfl, pl_w64 (x := (i : Int) + 1) (by omega) (by omega), show (i : Int) + 1 = ((i + 1 : Nat) : Int) by omega]
    exact ih (i + 1) (by omega)
theorem fr_l2 (E : List Ent) (hE : E = mvs a0 a1 a2 a3 a4 false) (hU : U.length ≤ 5) (K : Nat) (hK : 2300 ≤ K) : ∀ (d i : Nat), i + d = U.length →
    arrearslaw9_WaterfallFresh.l2 (d + 1 + K) (List.replicate E.length mA) U (List.replicate E.length mC) (List.replicate i mD ++ U.drop i) (E.length : Int) E U (i : Int) a0 a1 a2 a3 a4 = some true := by
  have hl : E.length ≤ 5 := by rw [hE]; exact mvs_len _ _ _ _ _ _
  intro d
  induction d with
  | zero =>
    intro i h
    obtain rfl : i = U.length := by omega
    obtain ⟨m, rfl⟩ : ∃ m, K = (U.length + 1 + m) + 1 := ⟨K - (U.length + 2), by omega⟩
    rw [List.drop_length, List.append_nil, show 0 + 1 + (U.length + 1 + m + 1) = (U.length + 1 + m + 1) + 1 by omega, arrearslaw9_WaterfallFresh.l2, if_neg (by rw [List.length_replicate]; omega), alike_is _ (by omega) _ (by omega)]
    simp only [Option.bind_some]
    rw [if_pos trivial, gone_true _ _ (by simp; omega) _ (by omega)]
    simp only [Option.bind_some]
    rw [if_pos trivial, gone_true _ _ (by simp; omega) _ (by omega)]
    simp only [Option.bind_some]
    rw [if_pos trivial, gone_true _ _ (by omega) _ (by omega)]
    simp only [Option.bind_some]
    rw [if_pos trivial, gone_true _ _ (by simp; omega) _ (by omega)]
    simp only [Option.bind_some]
    rw [arrearslaw9_WaterfallFresh.j9, if_neg (by simp)]
    exact fr_l3 a0 a1 a2 a3 a4 U E hE hU m (by omega) U.length 0 (by omega)
  | succ d ih =>
    intro i h
    rw [show d + 1 + 1 + K = (d + 1 + K) + 1 by omega, arrearslaw9_WaterfallFresh.l2, if_pos (by rw [mark_len U mD i (by omega)]; omega), if_pos (by omega), Int.toNat_natCast, set_mark U mD i (by omega), pl_w64 (x := (i : Int) + 1) (by omega) (by omega), show (i : Int) + 1 = ((i + 1 : Nat) : Int) by omega]
    exact ih (i + 1) (by omega)
theorem fr_l1 (E : List Ent) (hE : E = mvs a0 a1 a2 a3 a4 false) (hU : U.length ≤ 5) (K : Nat) (hK : 2400 ≤ K) : ∀ (d i : Nat), i + d = E.length →
    arrearslaw9_WaterfallFresh.l1 (d + 1 + K) (List.replicate E.length mA) U (List.replicate i mC ++ E.drop i) U (E.length : Int) E U (i : Int) a0 a1 a2 a3 a4 = some true := by
  have hl : E.length ≤ 5 := by rw [hE]; exact mvs_len _ _ _ _ _ _
  intro d
  induction d with
  | zero =>
    intro i h
    obtain rfl : i = E.length := by omega
    obtain ⟨m, rfl⟩ : ∃ m, K = U.length + 1 + m := ⟨K - (U.length + 1), by omega⟩
    rw [List.drop_length, List.append_nil, show 0 + 1 + (U.length + 1 + m) = (U.length + 1 + m) + 1 by omega, arrearslaw9_WaterfallFresh.l1, if_neg (by rw [List.length_replicate]; omega)]
    exact fr_l2 a0 a1 a2 a3 a4 U E hE hU m (by omega) U.length 0 (by omega)
  | succ d ih =>
    intro i h
    rw [show d + 1 + 1 + K = (d + 1 + K) + 1 by omega, arrearslaw9_WaterfallFresh.l1, if_pos (by rw [mark_len E mC i (by omega)]; omega), if_pos (by omega), Int.toNat_natCast, set_mark E mC i (by omega), pl_w64 (x := (i : Int) + 1) (by omega) (by omega), show (i : Int) + 1 = ((i + 1 : Nat) : Int) by omega]
    exact ih (i + 1) (by omega)
theorem fr_l0 (E : List Ent) (hE : E = mvs a0 a1 a2 a3 a4 false) (hU : U.length ≤ 5) (K : Nat) (hK : 2500 ≤ K) : ∀ (d i : Nat), i + d = E.length →
    arrearslaw9_WaterfallFresh.l0 (d + 1 + K) (List.replicate i mA ++ E.drop i) U E U (E.length : Int) E U (i : Int) a0 a1 a2 a3 a4 = some true := by
  have hl : E.length ≤ 5 := by rw [hE]; exact mvs_len _ _ _ _ _ _
  intro d
  induction d with
  | zero =>
    intro i h
    obtain rfl : i = E.length := by omega
    obtain ⟨m, rfl⟩ : ∃ m, K = E.length + 1 + m := ⟨K - (E.length + 1), by omega⟩
    rw [List.drop_length, List.append_nil, show 0 + 1 + (E.length + 1 + m) = (E.length + 1 + m) + 1 by omega, arrearslaw9_WaterfallFresh.l0, if_neg (by rw [List.length_replicate]; omega)]
    exact fr_l1 a0 a1 a2 a3 a4 U E hE hU m (by omega) E.length 0 (by omega)
  | succ d ih =>
    intro i h
    rw [show d + 1 + 1 + K = (d + 1 + K) + 1 by omega, arrearslaw9_WaterfallFresh.l0, if_pos (by rw [mark_len E mA i (by omega)]; omega), if_pos (by omega), Int.toNat_natCast, set_mark E mA i (by omega), pl_w64 (x := (i : Int) + 1) (by omega) (by omega), show (i : Int) + 1 = ((i + 1 : Nat) : Int) by omega]
    exact ih (i + 1) (by omega)
end
def WaterfallFresh_Pure : Prop := ∀ (B0 B1 : Nat) (x0 : S23) (x1 : S23), (WF23 B0 x0) → (WF23 B1 x1) → ∃ k, arrearslaw9_WaterfallFresh.f k x0.f0 x0.f1 x0.f2 x0.f3 x0.f4 x1.f0 x1.f1 x1.f2 x1.f3 x1.f4 = some true
theorem WaterfallFresh_pure : WaterfallFresh_Pure := by
  intro B0 B1 x0 x1 _ _
  obtain ⟨a0, a1, a2, a3, a4⟩ := x0
  obtain ⟨b0, b1, b2, b3, b4⟩ := x1
  obtain ⟨E, hE⟩ : ∃ E, E = mvs a0 a1 a2 a3 a4 false := ⟨_, rfl⟩
  obtain ⟨U, hU⟩ : ∃ U, U = mvs b0 b1 b2 b3 b4 true := ⟨_, rfl⟩
  have lE : E.length ≤ 5 := by rw [hE]; exact mvs_len _ _ _ _ _ _
  have lU : U.length ≤ 5 := by rw [hU]; exact mvs_len _ _ _ _ _ _
  have cE : (E.length : Int) = 0 + cnt a0 + cnt a1 + cnt a2 + cnt a3 + cnt a4 := by rw [hE]; exact mvs_cnt _ _ _ _ _ _
  have c0 := cnt_in a0; have c1 := cnt_in a1; have c2 := cnt_in a2; have c3 := cnt_in a3; have c4 := cnt_in a4
  obtain ⟨R, hR⟩ : ∃ R, R = 3000 := ⟨_, rfl⟩
  refine ⟨E.length + 1 + R + 6, ?_⟩
  unfold arrearslaw9_WaterfallFresh.f
  dsimp only
  rw [entries_is _ _ _ _ _ _ (by omega), undo_is _ _ _ _ _ _ (by omega), ← hE, ← hU]
  simp only [Option.bind_some]
  have s0 := cnt_step (fun n => arrearslaw9_WaterfallFresh.j0 (E.length + 1 + R + 6) E U E U n a0 a1 a2 a3 a4) a0 0 (by omega) (by omega)
  rw [pl_w64 (by omega) (by omega)] at s0
  refine s0.trans ?_
  rw [show E.length + 1 + R + 6 = (E.length + 1 + R + 5) + 1 from rfl, arrearslaw9_WaterfallFresh.j0]
  refine (cnt_step (fun n => arrearslaw9_WaterfallFresh.j1 (E.length + 1 + R + 5) E U E U n a0 a1 a2 a3 a4) a1 _ (by omega) (by omega)).trans ?_
  rw [show E.length + 1 + R + 5 = (E.length + 1 + R + 4) + 1 from rfl, arrearslaw9_WaterfallFresh.j1]
  refine (cnt_step (fun n => arrearslaw9_WaterfallFresh.j2 (E.length + 1 + R + 4) E U E U n a0 a1 a2 a3 a4) a2 _ (by omega) (by omega)).trans ?_
  rw [show E.length + 1 + R + 4 = (E.length + 1 + R + 3) + 1 from rfl, arrearslaw9_WaterfallFresh.j2]
  refine (cnt_step (fun n => arrearslaw9_WaterfallFresh.j3 (E.length + 1 + R + 3) E U E U n a0 a1 a2 a3 a4) a3 _ (by omega) (by omega)).trans ?_
  rw [show E.length + 1 + R + 3 = (E.length + 1 + R + 2) + 1 from rfl, arrearslaw9_WaterfallFresh.j3]
  refine (cnt_step (fun n => arrearslaw9_WaterfallFresh.j4 (E.length + 1 + R + 2) E U E U n a0 a1 a2 a3 a4) a4 _ (by omega) (by omega)).trans ?_
  rw [← cE, show E.length + 1 + R + 2 = (E.length + 1 + R + 1) + 1 from rfl, arrearslaw9_WaterfallFresh.j4, if_pos rfl, if_pos rfl, alike_is _ (by omega) _ (by omega)]
  simp only [Option.bind_some, Bool.not_true]
  rw [arrearslaw9_WaterfallFresh.j5, if_neg (by simp)]
  simp only [Option.bind_some]
  rw [if_pos (by simp; omega), if_pos (by simp; omega), List.nil_append, List.nil_append]
  exact fr_l0 a0 a1 a2 a3 a4 U E hE lU R (by omega) E.length 0 (by omega)
end Go.Proofs.Ytleeifpdgnjbdaa.F
