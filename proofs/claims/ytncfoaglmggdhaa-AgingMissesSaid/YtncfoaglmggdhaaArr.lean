/- A place of an array that varies, read. No condition. -/
import Derived.Test.YtncfoaglmggdhaaProg
import Derived.Test.YtncfoaglmggdhaaWWords
import Derived.KernelRfl
namespace Go.Proofs.Ytncfoaglmggdhaa
open Go.RowKit
set_option linter.unusedVariables false
/-- The number at a place of a list. -/
def selI (l : List Int) (j : Int) : Int := l.getD j.toNat 0
theorem selI_at (k : IntKind) (l : List Int) (j : Int) (h0 : 0 ≤ j) (h1 : j < (l.length : Int)) : ((l.map (Value.int k)).toArray)[j.toNat]? = some (.int k (selI l j)) := by
  have h : j.toNat < l.length := by omega
  simp [selI, List.getElem?_map, List.getElem?_eq_getElem h]
theorem selI_at3 (k : IntKind) (pre : List Value) (l : List Int) (post : List Value) (j : Int) (h0 : 0 ≤ j) (h1 : j < (l.length : Int)) : ((pre ++ (l.map (Value.int k) ++ post)).toArray)[pre.length + j.toNat]? = some (.int k (selI l j)) := by
  have h : j.toNat < l.length := by omega
  rw [List.getElem?_toArray, List.getElem?_append_right (by omega), show pre.length + j.toNat - pre.length = j.toNat by omega, List.getElem?_append_left (by rw [List.length_map]; exact h)]
  simp [selI, List.getElem?_map, List.getElem?_eq_getElem h]
theorem sel_elem2 {W : World} {A : Addr} (k : IntKind) {x0 x1 : Int} (e0 : W.cell? A = some (.int k x0)) (e1 : W.cell? ⟨A.block, A.off + 1, none⟩ = some (.int k x1)) (j : Int) (h0 : 0 ≤ j) (h1 : j < 2) : W.cell? (A.add j.toNat) = some (.int k (selI [x0, x1] j)) := by
  obtain ⟨n, rfl⟩ := Int.eq_ofNat_of_zero_le h0
  have h : n < 2 := by omega
  have h' : n = 0 ∨ n = 1 := by omega
  clear h h0 h1
  rcases h' with rfl | rfl
  · exact e0
  · exact e1
theorem sel_elem4 {W : World} {A : Addr} (k : IntKind) {x0 x1 x2 x3 : Int} (e0 : W.cell? A = some (.int k x0)) (e1 : W.cell? ⟨A.block, A.off + 1, none⟩ = some (.int k x1)) (e2 : W.cell? ⟨A.block, A.off + 2, none⟩ = some (.int k x2)) (e3 : W.cell? ⟨A.block, A.off + 3, none⟩ = some (.int k x3)) (j : Int) (h0 : 0 ≤ j) (h1 : j < 4) : W.cell? (A.add j.toNat) = some (.int k (selI [x0, x1, x2, x3] j)) := by
  obtain ⟨n, rfl⟩ := Int.eq_ofNat_of_zero_le h0
  have h : n < 4 := by omega
  have h' : n = 0 ∨ n = 1 ∨ n = 2 ∨ n = 3 := by omega
  clear h h0 h1
  rcases h' with rfl | rfl | rfl | rfl
  · exact e0
  · exact e1
  · exact e2
  · exact e3
theorem idxv_59 (x0 x1 j : Int) (h0 : 0 ≤ j) (h1 : j < 2) (W : World) : (Instr.index 59 (.agg #[.int .i64 x0, .int .i64 x1]) (.int .i64 j)).run Try.prog W = .ok (.int .i64 (selI [x0, x1] j)) W := by
  obtain ⟨n, rfl⟩ := Int.eq_ofNat_of_zero_le h0
  have h : n < 2 := by omega
  have h' : n = 0 ∨ n = 1 := by omega
  clear h h0 h1
  rcases h' with rfl | rfl
  · exact (by kernel_rfl : (Instr.index 59 (.agg #[.int .i64 x0, .int .i64 x1]) (.int .i64 0)).run Try.prog W = .ok (.int .i64 x0) W)
  · exact (by kernel_rfl : (Instr.index 59 (.agg #[.int .i64 x0, .int .i64 x1]) (.int .i64 1)).run Try.prog W = .ok (.int .i64 x1) W)
theorem idxv_61 (x0 x1 x2 x3 j : Int) (h0 : 0 ≤ j) (h1 : j < 4) (W : World) : (Instr.index 61 (.agg #[.int .i64 x0, .int .i64 x1, .int .i64 x2, .int .i64 x3]) (.int .i64 j)).run Try.prog W = .ok (.int .i64 (selI [x0, x1, x2, x3] j)) W := by
  obtain ⟨n, rfl⟩ := Int.eq_ofNat_of_zero_le h0
  have h : n < 4 := by omega
  have h' : n = 0 ∨ n = 1 ∨ n = 2 ∨ n = 3 := by omega
  clear h h0 h1
  rcases h' with rfl | rfl | rfl | rfl
  · exact (by kernel_rfl : (Instr.index 61 (.agg #[.int .i64 x0, .int .i64 x1, .int .i64 x2, .int .i64 x3]) (.int .i64 0)).run Try.prog W = .ok (.int .i64 x0) W)
  · exact (by kernel_rfl : (Instr.index 61 (.agg #[.int .i64 x0, .int .i64 x1, .int .i64 x2, .int .i64 x3]) (.int .i64 1)).run Try.prog W = .ok (.int .i64 x1) W)
  · exact (by kernel_rfl : (Instr.index 61 (.agg #[.int .i64 x0, .int .i64 x1, .int .i64 x2, .int .i64 x3]) (.int .i64 2)).run Try.prog W = .ok (.int .i64 x2) W)
  · exact (by kernel_rfl : (Instr.index 61 (.agg #[.int .i64 x0, .int .i64 x1, .int .i64 x2, .int .i64 x3]) (.int .i64 3)).run Try.prog W = .ok (.int .i64 x3) W)
end Go.Proofs.Ytncfoaglmggdhaa
