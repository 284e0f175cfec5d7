/- A place of an array that varies, written. No condition. -/
import Derived.Test.YtmppfpdaglkhkaaArr
namespace Go.Proofs.Ytmppfpdaglkhkaa
open Go.RowKit
set_option linter.unusedVariables false
/-- What stands at place i when v was put at place j. -/
def putI (j : Int) (i : Nat) (v o : Int) : Int := if j = (i : Int) then v else o
def putL (j v : Int) : List Int → Nat → List Int
  | [], _ => []
  | o :: l, i => putI j i v o :: putL j v l (i + 1)
theorem putL_set (v : Int) : ∀ (l : List Int) (i n : Nat), n < l.length → l.set n v = putL ((i + n : Nat) : Int) v l i
  | [], _, _, h => by simp at h
  | o :: l, i, 0, _ => by
    have e : ∀ (l : List Int) (m : Nat), i < m → putL ((i : Nat) : Int) v l m = l := by
      intro l
      induction l with
      | nil => intro m _; rfl
      | cons x l ih => intro m hm; unfold putL putI; rw [if_neg (by omega), ih (m + 1) (by omega)]
    unfold putL putI
    rw [Nat.add_zero, if_pos rfl, e l (i + 1) (by omega)]; rfl
  | o :: l, i, n + 1, h => by
    unfold putL putI
    rw [if_neg (by omega), List.set_cons_succ, putL_set v l (i + 1) n (by simpa using h), show i + 1 + n = i + (n + 1) by omega]
theorem putI_row (k : IntKind) (l : List Int) (j v : Int) (h0 : 0 ≤ j) (h1 : j < (l.length : Int)) : ((l.map (Value.int k)).toArray).setIfInBounds j.toNat (.int k v) = ((putL j v l 0).map (Value.int k)).toArray := by
  obtain ⟨n, rfl⟩ := Int.eq_ofNat_of_zero_le h0
  rw [Int.toNat_natCast, List.setIfInBounds_toArray, ← List.map_set, putL_set v l 0 n (by omega), Nat.zero_add]
theorem seg_arr12 {k : IntKind} (x0 x1 x2 x3 x4 x5 x6 x7 x8 x9 x10 x11 j v : Int) (h0 : 0 ≤ j) (h1 : j < 12) : ([.int k x0, .int k x1, .int k x2, .int k x3, .int k x4, .int k x5, .int k x6, .int k x7, .int k x8, .int k x9, .int k x10, .int k x11] : List Value).take j.toNat ++ [.int k v] ++ ([.int k x0, .int k x1, .int k x2, .int k x3, .int k x4, .int k x5, .int k x6, .int k x7, .int k x8, .int k x9, .int k x10, .int k x11] : List Value).drop (j.toNat + [Value.int k v].length) = [.int k (putI j 0 v x0), .int k (putI j 1 v x1), .int k (putI j 2 v x2), .int k (putI j 3 v x3), .int k (putI j 4 v x4), .int k (putI j 5 v x5), .int k (putI j 6 v x6), .int k (putI j 7 v x7), .int k (putI j 8 v x8), .int k (putI j 9 v x9), .int k (putI j 10 v x10), .int k (putI j 11 v x11)] := by
  obtain ⟨n, rfl⟩ := Int.eq_ofNat_of_zero_le h0
  have h : n < 12 := by omega
  have h' : n = 0 ∨ n = 1 ∨ n = 2 ∨ n = 3 ∨ n = 4 ∨ n = 5 ∨ n = 6 ∨ n = 7 ∨ n = 8 ∨ n = 9 ∨ n = 10 ∨ n = 11 := by omega
  clear h h0 h1
  rcases h' with rfl | rfl | rfl | rfl | rfl | rfl | rfl | rfl | rfl | rfl | rfl | rfl <;> rfl
theorem sel_arr12 {k : IntKind} (x0 x1 x2 x3 x4 x5 x6 x7 x8 x9 x10 x11 j : Int) (h0 : 0 ≤ j) (h1 : j < 12) : ([.int k x0, .int k x1, .int k x2, .int k x3, .int k x4, .int k x5, .int k x6, .int k x7, .int k x8, .int k x9, .int k x10, .int k x11] : List Value)[j.toNat]? = some (.int k (selI [x0, x1, x2, x3, x4, x5, x6, x7, x8, x9, x10, x11] j)) := by
  obtain ⟨n, rfl⟩ := Int.eq_ofNat_of_zero_le h0
  have h : n < 12 := by omega
  have h' : n = 0 ∨ n = 1 ∨ n = 2 ∨ n = 3 ∨ n = 4 ∨ n = 5 ∨ n = 6 ∨ n = 7 ∨ n = 8 ∨ n = 9 ∨ n = 10 ∨ n = 11 := by omega
  clear h h0 h1
  rcases h' with rfl | rfl | rfl | rfl | rfl | rfl | rfl | rfl | rfl | rfl | rfl | rfl <;> rfl
end Go.Proofs.Ytmppfpdaglkhkaa
