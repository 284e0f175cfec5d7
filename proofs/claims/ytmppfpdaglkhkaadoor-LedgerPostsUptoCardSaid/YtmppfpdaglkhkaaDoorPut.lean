/- A place of an array that varies, written. No condition. -/
import Derived.Test.YtmppfpdaglkhkaaDoorArr
namespace Go.Proofs.YtmppfpdaglkhkaaDoor
open Go.RowKit
set_option linter.unusedVariables false
/-- What stands at place i when v was put at place j. -/
def putI (j : Int) (i : Nat) (v o : Int) : Int := if j = (i : Int) then v else o
def putL (j v : Int) : List Int → Nat → List Int
  | [], _ => []
  | o :: l, i => putI j i v o :: putL j v l (i + 1)
theorem putL_set (v : Int) : ∀ (l : List Int) (i n : Nat), n < l.length → l.set n v = putL ((i + n : Nat) : Int) v l i
  | [], _, _, h => by simp at h
  | o :: l, i, 0, _ => by
    have e : ∀ (l : List Int) (m : Nat), i < m → putL ((i : Nat) : Int) v l m = l := by
      intro l
      induction l with
      | nil => intro m _; rfl
      | cons x l ih => intro m hm; unfold putL putI; rw [if_neg (by omega), ih (m + 1) (by omega)]
    unfold putL putI
    rw [Nat.add_zero, if_pos rfl, e l (i + 1) (by omega)]; rfl
  | o :: l, i, n + 1, h => by
    unfold putL putI
    rw [if_neg (by omega), List.set_cons_succ, putL_set v l (i + 1) n (by simpa using h), show i + 1 + n = i + (n + 1) by omega]
theorem putI_row (k : IntKind) (l : List Int) (j v : Int) (h0 : 0 ≤ j) (h1 : j < (l.length : Int)) : ((l.map (Value.int k)).toArray).setIfInBounds j.toNat (.int k v) = ((putL j v l 0).map (Value.int k)).toArray := by
  obtain ⟨n, rfl⟩ := Int.eq_ofNat_of_zero_le h0
  rw [Int.toNat_natCast, List.setIfInBounds_toArray, ← List.map_set, putL_set v l 0 n (by omega), Nat.zero_add]
end Go.Proofs.YtmppfpdaglkhkaaDoor
