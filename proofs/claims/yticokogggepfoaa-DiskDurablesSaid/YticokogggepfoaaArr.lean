/- A place of an array that varies, read. No condition. -/
import Derived.Test.YticokogggepfoaaProg
import Derived.Test.YticokogggepfoaaWWords
import Derived.KernelRfl
namespace Go.Proofs.Yticokogggepfoaa
open Go.RowKit
set_option linter.unusedVariables false
/-- The number at a place of a list. -/
def selI (l : List Int) (j : Int) : Int := l.getD j.toNat 0
theorem selI_at (k : IntKind) (l : List Int) (j : Int) (h0 : 0 ≤ j) (h1 : j < (l.length : Int)) : ((l.map (Value.int k)).toArray)[j.toNat]? = some (.int k (selI l j)) := by
  have h : j.toNat < l.length := by omega
  simp [selI, List.getElem?_map, List.getElem?_eq_getElem h]
theorem selI_at3 (k : IntKind) (pre : List Value) (l : List Int) (post : List Value) (j : Int) (h0 : 0 ≤ j) (h1 : j < (l.length : Int)) : ((pre ++ (l.map (Value.int k) ++ post)).toArray)[pre.length + j.toNat]? = some (.int k (selI l j)) := by
  have h : j.toNat < l.length := by omega
  rw [List.getElem?_toArray, List.getElem?_append_right (by omega), show pre.length + j.toNat - pre.length = j.toNat by omega, List.getElem?_append_left (by rw [List.length_map]; exact h)]
  simp [selI, List.getElem?_map, List.getElem?_eq_getElem h]
end Go.Proofs.Yticokogggepfoaa
