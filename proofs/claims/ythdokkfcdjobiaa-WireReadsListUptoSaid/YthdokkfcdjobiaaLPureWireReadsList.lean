/- WireReadsList: of any bytes and any place the law's answer is true: List handed a way that refuses, stays, goes back or leaves the bytes refuses just then, and asks for nothing behind. No condition but the bytes' range and a length up to a bound. -/
import Derived.Test.YthdokkfcdjobiaaLWireM
import Derived.Test.YthdokkfcdjobiaaLx5
import Derived.Test.YthdokkfcdjobiaaLx4
import Derived.Test.YthdokkfcdjobiaaLx3
import Derived.Test.YthdokkfcdjobiaaLx2
namespace Go.Proofs.Ythdokkfcdjobiaa.L
open Go.RowKit Go.Proofs.YthdokkfcdjobiaaW.PrintWords Go.Proofs.YthdokkfcdjobiaaW.PrintLast Go.Proofs.YthdokkfcdjobiaaW.PrintMore
set_option linter.unusedVariables false
set_option linter.unusedSimpArgs false

theorem search_place {l : List Int} {a : Int} : ∀ (d n : Nat), 1 ≤ n → (arrearsref4_Uint.search l a d n).2.2 = true → a + 1 ≤ (arrearsref4_Uint.search l a d n).2.1 ∧ (arrearsref4_Uint.search l a d n).2.1 ≤ l.length := by
  intro d
  induction d with
  | zero => intro n _ h; simp [arrearsref4_Uint.search] at h
  | succ d ih =>
    intro n hn h
    rw [arrearsref4_Uint.search] at h ⊢
    split
    · rename_i hc
      rw [if_pos hc] at h
      split
      · dsimp only; omega
      · rename_i hh
        rw [if_neg hh] at h
        exact ih (n + 1) (by omega) h
    · rename_i hc
      rw [if_neg hc] at h
      simp at h
/-- What a number's reading tells, in the program and in the document. -/
theorem uint_spec (l : List Int) (a : Int) (hb : ∀ x ∈ l, 0 ≤ x ∧ x ≤ 255) (hl : l.length ≤ 1048576) : ∃ u p ok, arrearsref4_Uint.f l a = some (u, p, ok) ∧ (∀ k, 40 ≤ k → wire_Uint.f k l a = some (u, p, ok)) ∧ 0 ≤ u ∧ (ok = true → 0 ≤ p ∧ p ≤ l.length) := by
  have hf : arrearsref4_Uint.f l a = some (if a < 0 ∨ a > l.length then (0, 0, false) else arrearsref4_Uint.search l a 11 1) := by unfold arrearsref4_Uint.f; rw [if_pos hb]
  by_cases c : a < 0 ∨ a > l.length
  · rw [if_pos c] at hf
    exact ⟨0, 0, false, hf, fun k hk => (uint_same hb (by omega) k hk).trans hf, by omega, fun h => by cases h⟩
  · rw [if_neg c] at hf
    have hr : 0 ≤ (arrearsref4_Uint.search l a 11 1).1 := (search_range 11 1).1
    have hs := search_place (l := l) (a := a) 11 1 (by omega)
    generalize arrearsref4_Uint.search l a 11 1 = q at hf hr hs
    obtain ⟨q1, q2, q3⟩ := q
    refine ⟨q1, q2, q3, hf, fun k hk => (uint_same hb (by omega) k hk).trans hf, hr, fun h => ?_⟩
    have := hs h
    dsimp only at this
    omega
/-- The law's odd way, as one answer. -/
def od (l : List Int) (a : Int) : Int × Int × Bool := (arrearslaw4_odd.f 5 l a).getD (0, 0, false)
theorem odd_is (l : List Int) (a : Int) (k : Nat) (hk : 2 ≤ k) : arrearslaw4_odd.f k l a = some (od l a) := by
  obtain ⟨k, rfl⟩ : ∃ m, k = m + 1 := ⟨k - 1, by omega⟩
  have e : ∀ b : Bool, (b = true ∨ (0 ≤ a ∧ a < (l.length : Int))) → arrearslaw4_odd.j0 (k + 1) l a b = some ((arrearslaw4_odd.j0 5 l a b).getD (0, 0, false)) := by
    intro b hb
    rw [arrearslaw4_odd.j0, arrearslaw4_odd.j0]
    cases b with
    | true => rfl
    | false =>
      obtain ⟨h1, h2⟩ := hb.resolve_left (by simp)
      rw [if_neg (by simp), if_pos h1, if_pos h2]
      split
      · rfl
      · split
        · rfl
        · split
          · rfl
          · split
            · rfl
            · split <;> rfl
  unfold od arrearslaw4_odd.f
  by_cases c : a < 0
  · rw [if_pos c, if_pos c]; exact e true (.inl rfl)
  · rw [if_neg c, if_neg c]
    by_cases c2 : a ≥ (l.length : Int)
    · rw [decide_eq_true c2]; exact e true (.inl rfl)
    · rw [decide_eq_false c2]; exact e false (.inr ⟨by omega, by omega⟩)
theorem odd_loop (l : List Int) (d : Nat) : ∀ (i : Nat) (place : Int) (acc : List Int) (k1 k2 : Nat), i + d ≤ 1048576 → acc.length + d ≤ 2000000 → d + 5 ≤ k1 → d + 5 ≤ k2 →
    ∃ R : List Int × Int × Bool, wire_List_int64.l0 k1 l (d : Int) place acc = some R ∧ arrearslaw4_oddly.l0 k2 l ((i + d : Nat) : Int) place acc (i : Int) = some R ∧ R.1.length ≤ acc.length + d := by
  induction d with
  | zero =>
    intro i place acc k1 k2 hi ha h1 h2
    obtain ⟨k1, rfl⟩ : ∃ m, k1 = m + 1 := ⟨k1 - 1, by omega⟩
    obtain ⟨k2, rfl⟩ : ∃ m, k2 = m + 1 := ⟨k2 - 1, by omega⟩
    refine ⟨(acc, place, true), ?_, ?_, by simp⟩
    · rw [wire_List_int64.l0, if_neg (by omega)]
    · rw [arrearslaw4_oddly.l0, if_neg (by omega)]
  | succ d ih =>
    intro i place acc k1 k2 hi ha h1 h2
    obtain ⟨k1, rfl⟩ : ∃ m, k1 = m + 1 := ⟨k1 - 1, by omega⟩
    obtain ⟨k2, rfl⟩ : ∃ m, k2 = m + 1 := ⟨k2 - 1, by omega⟩
    rw [wire_List_int64.l0, if_pos (by omega), odd_is l place k1 (by omega), Option.bind_some, arrearslaw4_oddly.l0, if_pos (show (i : Int) < ((i + (d + 1) : Nat) : Int) from by omega), odd_is l place k2 (by omega), Option.bind_some]
    have hu : IntKind.u64.wrap (((d + 1 : Nat) : Int) - 1) = (d : Int) := by rw [pl_u64 (by omega) (by omega)]; omega
    have hw : IntKind.u64.wrap ((i : Int) + 1) = ((i + 1 : Nat) : Int) := by rw [pl_u64 (by omega) (by omega)]; omega
    by_cases c : (od l place).2.2 = true
    · rw [if_pos c, if_pos c]
      by_cases c2 : (od l place).2.1 ≤ place
      · rw [if_pos c2, if_pos c2]; exact ⟨_, rfl, rfl, by simp⟩
      · rw [if_neg c2, if_neg c2]
        by_cases c3 : (od l place).2.1 > (l.length : Int)
        · rw [if_pos c3, if_pos c3]; exact ⟨_, rfl, rfl, by simp⟩
        · rw [if_neg c3, if_neg c3, if_pos (by omega), if_pos (by omega), hu, hw]
          obtain ⟨R, r1, r2, r3⟩ := ih (i + 1) (od l place).2.1 (acc ++ [(od l place).1]) k1 k2 (by omega) (by rw [List.length_append, List.length_singleton]; omega) (by omega) (by omega)
          rw [show i + 1 + d = i + (d + 1) from by omega] at r2
          exact ⟨R, r1, r2, by rw [List.length_append, List.length_singleton] at r3; omega⟩
    · rw [if_neg c, if_neg c]; exact ⟨_, rfl, rfl, by simp⟩
theorem list_same (l : List Int) (a : Int) (hb : ∀ x ∈ l, 0 ≤ x ∧ x ≤ 255) (hl : l.length ≤ 1048576) (k : Nat) (hk : l.length + 100 ≤ k) : ∃ R : List Int × Int × Bool, wire_List_int64.f k l a 0 = some R ∧ arrearslaw4_oddly.f k l a = some R ∧ R.1.length ≤ 1048576 := by
  obtain ⟨u, p, ok, e1, e2, h0, h1⟩ := uint_spec l a hb hl
  obtain ⟨k, rfl⟩ : ∃ m, k = m + 1 := ⟨k - 1, by omega⟩
  unfold wire_List_int64.f arrearslaw4_oddly.f
  rw [e1, e2 _ (by omega), Option.bind_some, Option.bind_some]
  cases ok with
  | false =>
    rw [if_neg (by simp), if_neg (by simp), wire_List_int64.j0, arrearslaw4_oddly.j0, if_pos rfl, if_pos rfl]
    exact ⟨_, rfl, rfl, by simp⟩
  | true =>
    obtain ⟨hp0, hp1⟩ := h1 rfl
    have hw : IntKind.u64.wrap (wrap64 ((l.length : Int) - p)) = (l.length : Int) - p := by rw [pl_w64 (by omega) (by omega), pl_u64 (by omega) (by omega)]
    rw [if_pos rfl, if_pos rfl]
    show ∃ R, wire_List_int64.j0 (k + 1) l u p (decide (u > IntKind.u64.wrap (wrap64 ((l.length : Int) - p)))) = some R ∧ arrearslaw4_oddly.j0 (k + 1) l u p (decide (u > IntKind.u64.wrap (wrap64 ((l.length : Int) - p)))) = some R ∧ _
    rw [hw, wire_List_int64.j0, arrearslaw4_oddly.j0]
    by_cases c : u > (l.length : Int) - p
    · rw [decide_eq_true c, if_pos rfl, if_pos rfl]; exact ⟨_, rfl, rfl, by simp⟩
    · rw [decide_eq_false c, if_neg (by simp), if_neg (by simp)]
      obtain ⟨n, rfl⟩ := Int.eq_ofNat_of_zero_le h0
      obtain ⟨R, r1, r2, r3⟩ := odd_loop l n 0 p [] k k (by omega) (by simp; omega) (by omega) (by omega)
      rw [Nat.zero_add] at r2
      exact ⟨R, r1, r2, by simp at r3; omega⟩
/-- Where the law stops asking. -/
def Stop (l : List Int) (p n e : Nat) : Prop := ∃ j : Nat, e = p + j ∧ j ≤ n ∧ ((j = n ∧ ∀ s, s < n → rd l ((p + s : Nat) : Int) ≠ 2) ∨ (1 ≤ j ∧ rd l ((p + j - 1 : Nat) : Int) = 2 ∧ ∀ s, s + 1 < j → rd l ((p + s : Nat) : Int) ≠ 2))
theorem rd_of_drop {x l : List Int} {i : Nat} (h : x.drop i = l.drop i) : rd x (i : Int) = rd l (i : Int) := by
  unfold rd
  rw [Int.toNat_natCast, List.getD_eq_getElem?_getD, List.getD_eq_getElem?_getD]
  have := congrArg (fun y => y[0]?) h
  simp only [List.getElem?_drop, Nat.add_zero] at this
  rw [this]
theorem drop_set {x l : List Int} {i : Nat} (v : Int) (h : x.drop i = l.drop i) : (x.set i v).drop (i + 1) = l.drop (i + 1) := by
  rw [List.drop_set_of_lt (by omega), ← List.drop_drop, h, List.drop_drop]
theorem wl_loop (l : List Int) (hl : l.length ≤ 1048576) (p n : Nat) (hn : p + n ≤ l.length) (d : Nat) : ∀ (t k : Nat) (x acc : List Int), t + d = n → x.length = l.length → x.drop (p + t) = l.drop (p + t) → (∀ s, s < t → rd l ((p + s : Nat) : Int) ≠ 2) → acc.length + d ≤ 2000000 → d + 1 ≤ k →
    ∃ r1 r2 r3 r4, arrearslaw4_asked.wl.l0 k x (d : Int) ((p + t : Nat) : Int) acc = some (r1, r2, r3, r4) ∧ r4.length = l.length ∧ ∀ e, Stop l p n e → r4.drop e = l.drop e := by
  induction d with
  | zero =>
    intro t k x acc ht hx hd hs ha hk
    obtain ⟨k, rfl⟩ : ∃ m, k = m + 1 := ⟨k - 1, by omega⟩
    refine ⟨acc, ((p + t : Nat) : Int), true, x, by rw [arrearslaw4_asked.wl.l0, if_neg (by omega)], hx, ?_⟩
    rintro e ⟨j, rfl, hj, ⟨rfl, _⟩ | ⟨h1, h2, _⟩⟩
    · rw [show p + j = p + t from by omega]; exact hd
    · exact absurd h2 (by rw [show p + j - 1 = p + (j - 1) from by omega]; exact hs (j - 1) (by omega))
  | succ d ih =>
    intro t k x acc ht hx hd hs ha hk
    obtain ⟨k, rfl⟩ : ∃ m, k = m + 1 := ⟨k - 1, by omega⟩
    have hm : arrearslaw4_marking.f x ((p + t : Nat) : Int) = some (1, ((p + (t + 1) : Nat) : Int), !((rd l ((p + t : Nat) : Int)) == 2), x.set (p + t) 99) := by
      unfold arrearslaw4_marking.f
      rw [if_neg (by omega), if_neg (by omega), if_pos (by omega), if_pos (by omega), rd_of_drop hd, Int.toNat_natCast, pl_w64 (by omega) (by omega)]
      rw [show ((p + t : Nat) : Int) + 1 = ((p + (t + 1) : Nat) : Int) from by omega]
    have hu : IntKind.u64.wrap (((d + 1 : Nat) : Int) - 1) = (d : Int) := by rw [pl_u64 (by omega) (by omega)]; omega
    have hd2 := drop_set 99 hd
    rw [arrearslaw4_asked.wl.l0, if_pos (by omega), hm, Option.bind_some]
    by_cases c : rd l ((p + t : Nat) : Int) = 2
    · rw [show (!(rd l ((p + t : Nat) : Int) == 2)) = false from by rw [c]; rfl, if_neg (by simp)]
      refine ⟨_, _, _, _, rfl, by rw [List.length_set]; exact hx, ?_⟩
      rintro e ⟨j, rfl, hj, ⟨rfl, h1⟩ | ⟨h1, h2, h3⟩⟩
      · exact absurd c (h1 t (by omega))
      · have hjt : j = t + 1 := by
          rcases Nat.lt_trichotomy j (t + 1) with h | h | h
          · exact absurd h2 (by rw [show p + j - 1 = p + (j - 1) from by omega]; exact hs (j - 1) (by omega))
          · exact h
          · exact absurd c (h3 t (by omega))
        rw [hjt]
        exact hd2
    · rw [show (!(rd l ((p + t : Nat) : Int) == 2)) = true from by rw [beq_eq_false_iff_ne.2 c]; rfl, if_pos rfl, if_neg (by show ¬ ((p + (t + 1) : Nat) : Int) ≤ _; omega), if_neg (by show ¬ ((p + (t + 1) : Nat) : Int) > _; rw [hx]; omega), if_pos (by omega), hu]
      refine ih (t + 1) k (x.set (p + t) 99) (acc ++ [1]) (by omega) (by rw [List.length_set]; exact hx) hd2 (fun s hs2 => ?_) (by rw [List.length_append, List.length_singleton]; omega) (by omega)
      rcases Nat.lt_or_ge s t with h | h
      · exact hs s h
      · obtain rfl : s = t := by omega
        exact c
theorem same_loop (a : List Int) (hm : a.length ≤ 1048576) (d : Nat) : ∀ (k i : Nat), i + d = a.length → d < k → arrearslaw4_same.l0 k a a (i : Int) = some true := by
  induction d with
  | zero =>
    intro k i hi hk
    obtain ⟨k, rfl⟩ : ∃ m, k = m + 1 := ⟨k - 1, by omega⟩
    rw [arrearslaw4_same.l0, if_neg (by omega)]
  | succ d ih =>
    intro k i hi hk
    obtain ⟨k, rfl⟩ : ∃ m, k = m + 1 := ⟨k - 1, by omega⟩
    rw [arrearslaw4_same.l0, if_pos (by omega), if_pos (by omega), if_pos (by omega), if_pos rfl, show wrap64 ((i : Int) + 1) = ((i + 1 : Nat) : Int) from by rw [pl_w64 (by omega) (by omega)]; omega, ih k (i + 1) (by omega) (by omega)]
theorem same_self (a : List Int) (hm : a.length ≤ 1048576) (k : Nat) (hk : a.length < k) : arrearslaw4_same.f k a a = some true := by
  unfold arrearslaw4_same.f
  rw [if_pos rfl]
  exact same_loop a hm a.length k 0 (by omega) hk
theorem asked_fin (l : List Int) (a : Int) (hb : ∀ x ∈ l, 0 ≤ x ∧ x ≤ 255) (hl : l.length ≤ 1048576) (p n : Nat) (hn : p + n ≤ l.length) (hu : ∀ k, 40 ≤ k → wire_Uint.f k l a = some ((n : Int), (p : Int), true)) (e : Nat) (he : Stop l p n e) (k : Nat) (hk : l.length + 100 ≤ k) : arrearslaw4_asked.l0 (k + 1) l a (n : Int) (e : Int) (n : Int) = some true := by
  obtain ⟨k, rfl⟩ : ∃ m, k = m + 1 := ⟨k - 1, by omega⟩
  have hel : e ≤ l.length := by obtain ⟨j, rfl, hj, _⟩ := he; omega
  have hw : IntKind.u64.wrap (wrap64 ((l.length : Int) - (p : Int))) = (l.length : Int) - p := by rw [pl_w64 (by omega) (by omega), pl_u64 (by omega) (by omega)]
  obtain ⟨r1, r2, r3, r4, h1, h2, h3⟩ := wl_loop l hl p n hn n 0 k l [] (by omega) rfl rfl (fun s hs => by omega) (by simp; omega) (by omega)
  have hwl : arrearslaw4_asked.wl.f (k + 1) l a 0 = some (r1, r2, r3, r4) := by
    unfold arrearslaw4_asked.wl.f
    rw [hu _ (by omega), Option.bind_some, if_pos rfl]
    show arrearslaw4_asked.wl.j0 (k + 1) l (n : Int) (p : Int) (decide ((n : Int) > IntKind.u64.wrap (wrap64 ((l.length : Int) - (p : Int))))) = _
    rw [hw, decide_eq_false (by omega), arrearslaw4_asked.wl.j0, if_neg (by simp)]
    exact h1
  rw [arrearslaw4_asked.l0, if_neg (by omega), copied_is l (by omega) _ (by omega), Option.bind_some, hwl, Option.bind_some, if_pos (by omega), if_pos (by omega), if_pos (by omega), Int.toNat_natCast]
  show (arrearslaw4_same.f (k + 1) (r4.drop e) (l.drop e)).bind _ = _
  rw [h3 e he, same_self (l.drop e) (by rw [List.length_drop]; omega) _ (by rw [List.length_drop]; omega), Option.bind_some]
theorem asked_loop (l : List Int) (a : Int) (hb : ∀ x ∈ l, 0 ≤ x ∧ x ≤ 255) (hl : l.length ≤ 1048576) (p n : Nat) (hn : p + n ≤ l.length) (hu : ∀ k, 40 ≤ k → wire_Uint.f k l a = some ((n : Int), (p : Int), true)) (d : Nat) : ∀ (i k : Nat), i + d = n → (∀ s, s < i → rd l ((p + s : Nat) : Int) ≠ 2) → d + l.length + 110 ≤ k → arrearslaw4_asked.l0 k l a (n : Int) ((p + i : Nat) : Int) (i : Int) = some true := by
  induction d with
  | zero =>
    intro i k hi hs hk
    obtain rfl : i = n := by omega
    obtain ⟨k, rfl⟩ : ∃ m, k = m + 1 := ⟨k - 1, by omega⟩
    exact asked_fin l a hb hl p i hn hu (p + i) ⟨i, rfl, Nat.le_refl _, .inl ⟨rfl, hs⟩⟩ k (by omega)
  | succ d ih =>
    intro i k hi hs hk
    obtain ⟨k, rfl⟩ : ∃ m, k = m + 1 + 1 := ⟨k - 2, by omega⟩
    have hi1 : wrap64 (((p + i : Nat) : Int) + 1) = ((p + (i + 1) : Nat) : Int) := by rw [pl_w64 (by omega) (by omega)]; omega
    have hi2 : wrap64 (((p + (i + 1) : Nat) : Int) - 1) = ((p + i : Nat) : Int) := by rw [pl_w64 (by omega) (by omega)]; omega
    have hn1 : IntKind.u64.wrap (IntKind.u64.wrap ((n : Int) - 1) + 1) = (n : Int) := by rw [pl_u64 (x := (n : Int) - 1) (by omega) (by omega), pl_u64 (by omega) (by omega)]; omega
    have hn2 : IntKind.u64.wrap ((i : Int) + 1) = ((i + 1 : Nat) : Int) := by rw [pl_u64 (by omega) (by omega)]; omega
    rw [arrearslaw4_asked.l0, if_pos (by omega), hi1, hi2, if_pos (by omega), if_pos (by omega), hn1, hn2]
    by_cases c : rd l ((p + i : Nat) : Int) = 2
    · rw [if_pos c]
      exact asked_fin l a hb hl p n hn hu (p + (i + 1)) ⟨i + 1, rfl, by omega, .inr ⟨by omega, by rw [show p + (i + 1) - 1 = p + i from by omega]; exact c, fun s hs2 => hs s (by omega)⟩⟩ k (by omega)
    · rw [if_neg c]
      refine ih (i + 1) (k + 1) (by omega) (fun s hs2 => ?_) (by omega)
      rcases Nat.lt_or_ge s i with h | h
      · exact hs s h
      · obtain rfl : s = i := by omega
        exact c
theorem asked_true (l : List Int) (a : Int) (hb : ∀ x ∈ l, 0 ≤ x ∧ x ≤ 255) (hl : l.length ≤ 1048576) (k : Nat) (hk : 2 * l.length + 200 ≤ k) : arrearslaw4_asked.f k l a = some true := by
  obtain ⟨u, p, ok, e1, e2, h0, h1⟩ := uint_spec l a hb hl
  obtain ⟨k, rfl⟩ : ∃ m, k = m + 1 := ⟨k - 1, by omega⟩
  unfold arrearslaw4_asked.f
  rw [e1, Option.bind_some]
  cases ok with
  | false => rw [if_neg (by simp), arrearslaw4_asked.j0, if_pos rfl]
  | true =>
    obtain ⟨hp0, hp1⟩ := h1 rfl
    obtain ⟨p, rfl⟩ := Int.eq_ofNat_of_zero_le hp0
    obtain ⟨n, rfl⟩ := Int.eq_ofNat_of_zero_le h0
    have hw : IntKind.u64.wrap (wrap64 ((l.length : Int) - (p : Int))) = (l.length : Int) - p := by rw [pl_w64 (by omega) (by omega), pl_u64 (by omega) (by omega)]
    rw [if_pos rfl]
    show arrearslaw4_asked.j0 (k + 1) l a (n : Int) (p : Int) (decide ((n : Int) > IntKind.u64.wrap (wrap64 ((l.length : Int) - (p : Int))))) = _
    rw [hw, arrearslaw4_asked.j0]
    by_cases c : (n : Int) > (l.length : Int) - p
    · rw [decide_eq_true c, if_pos rfl]
    · rw [decide_eq_false c, if_neg (by simp)]
      exact asked_loop l a hb hl p n (by omega) e2 n 0 k (by omega) (fun s hs => by omega) (by omega)
def WireReadsList_Pure : Prop := ∀ (l0 : List Int) (a1 : Int), ((∀ x_ ∈ l0, (Lit.int .u8 x_).wf = true) ∧ l0.length * 1 ≤ 140737488351232 ∧ l0.length ≤ 1048576) → ((Lit.int .i64 a1).wf = true) → ∃ k, arrearslaw4_WireReadsList.f k l0 a1 = some true
theorem WireReadsList_pure : WireReadsList_Pure := by
  intro l a h0 _
  have hb : ∀ x ∈ l, 0 ≤ x ∧ x ≤ 255 := fun x hx => by simpa [Lit.wf, IntKind.min, IntKind.max, IntKind.bits, IntKind.signed] using h0.1 x hx
  have hl : l.length ≤ 1048576 := h0.2.2
  refine ⟨2 * l.length + 2000000, ?_⟩
  generalize hk : 2 * l.length + 2000000 = k
  unfold arrearslaw4_WireReadsList.f
  obtain ⟨R, r1, r2, r3⟩ := list_same l a hb hl k (by omega)
  rw [copied_is l (by omega) k (by omega), Option.bind_some, r1, Option.bind_some, r2, Option.bind_some, sameNums_self R.1 (by omega) k (by omega), Option.bind_some, if_pos rfl, if_pos rfl, if_pos (by simp), asked_true l a hb hl k (by omega), Option.bind_some]
end Go.Proofs.Ythdokkfcdjobiaa.L
