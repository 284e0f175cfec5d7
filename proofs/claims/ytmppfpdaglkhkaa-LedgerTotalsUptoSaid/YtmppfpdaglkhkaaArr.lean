/- A place of an array that varies, read. No condition. -/
import Derived.Test.YtmppfpdaglkhkaaProg
import Derived.Test.YtmppfpdaglkhkaaWWords
import Derived.KernelRfl
namespace Go.Proofs.Ytmppfpdaglkhkaa
open Go.RowKit
set_option linter.unusedVariables false
/-- The number at a place of a list. -/
def selI (l : List Int) (j : Int) : Int := l.getD j.toNat 0
theorem selI_at (k : IntKind) (l : List Int) (j : Int) (h0 : 0 ≤ j) (h1 : j < (l.length : Int)) : ((l.map (Value.int k)).toArray)[j.toNat]? = some (.int k (selI l j)) := by
  have h : j.toNat < l.length := by omega
  simp [selI, List.getElem?_map, List.getElem?_eq_getElem h]
theorem selI_at3 (k : IntKind) (pre : List Value) (l : List Int) (post : List Value) (j : Int) (h0 : 0 ≤ j) (h1 : j < (l.length : Int)) : ((pre ++ (l.map (Value.int k) ++ post)).toArray)[pre.length + j.toNat]? = some (.int k (selI l j)) := by
  have h : j.toNat < l.length := by omega
  rw [List.getElem?_toArray, List.getElem?_append_right (by omega), show pre.length + j.toNat - pre.length = j.toNat by omega, List.getElem?_append_left (by rw [List.length_map]; exact h)]
  simp [selI, List.getElem?_map, List.getElem?_eq_getElem h]
theorem sel_elem12 {W : World} {A : Addr} (k : IntKind) {x0 x1 x2 x3 x4 x5 x6 x7 x8 x9 x10 x11 : Int} (e0 : W.cell? A = some (.int k x0)) (e1 : W.cell? ⟨A.block, A.off + 1, none⟩ = some (.int k x1)) (e2 : W.cell? ⟨A.block, A.off + 2, none⟩ = some (.int k x2)) (e3 : W.cell? ⟨A.block, A.off + 3, none⟩ = some (.int k x3)) (e4 : W.cell? ⟨A.block, A.off + 4, none⟩ = some (.int k x4)) (e5 : W.cell? ⟨A.block, A.off + 5, none⟩ = some (.int k x5)) (e6 : W.cell? ⟨A.block, A.off + 6, none⟩ = some (.int k x6)) (e7 : W.cell? ⟨A.block, A.off + 7, none⟩ = some (.int k x7)) (e8 : W.cell? ⟨A.block, A.off + 8, none⟩ = some (.int k x8)) (e9 : W.cell? ⟨A.block, A.off + 9, none⟩ = some (.int k x9)) (e10 : W.cell? ⟨A.block, A.off + 10, none⟩ = some (.int k x10)) (e11 : W.cell? ⟨A.block, A.off + 11, none⟩ = some (.int k x11)) (j : Int) (h0 : 0 ≤ j) (h1 : j < 12) : W.cell? (A.add j.toNat) = some (.int k (selI [x0, x1, x2, x3, x4, x5, x6, x7, x8, x9, x10, x11] j)) := by
  obtain ⟨n, rfl⟩ := Int.eq_ofNat_of_zero_le h0
  have h : n < 12 := by omega
  have h' : n = 0 ∨ n = 1 ∨ n = 2 ∨ n = 3 ∨ n = 4 ∨ n = 5 ∨ n = 6 ∨ n = 7 ∨ n = 8 ∨ n = 9 ∨ n = 10 ∨ n = 11 := by omega
  clear h h0 h1
  rcases h' with rfl | rfl | rfl | rfl | rfl | rfl | rfl | rfl | rfl | rfl | rfl | rfl
  · exact e0
  · exact e1
  · exact e2
  · exact e3
  · exact e4
  · exact e5
  · exact e6
  · exact e7
  · exact e8
  · exact e9
  · exact e10
  · exact e11
theorem idxv_30 (x0 x1 x2 x3 x4 x5 x6 x7 x8 x9 x10 x11 j : Int) (h0 : 0 ≤ j) (h1 : j < 12) (W : World) : (Instr.index 30 (.agg #[.int .i64 x0, .int .i64 x1, .int .i64 x2, .int .i64 x3, .int .i64 x4, .int .i64 x5, .int .i64 x6, .int .i64 x7, .int .i64 x8, .int .i64 x9, .int .i64 x10, .int .i64 x11]) (.int .i64 j)).run Try.prog W = .ok (.int .i64 (selI [x0, x1, x2, x3, x4, x5, x6, x7, x8, x9, x10, x11] j)) W := by
  obtain ⟨n, rfl⟩ := Int.eq_ofNat_of_zero_le h0
  have h : n < 12 := by omega
  have h' : n = 0 ∨ n = 1 ∨ n = 2 ∨ n = 3 ∨ n = 4 ∨ n = 5 ∨ n = 6 ∨ n = 7 ∨ n = 8 ∨ n = 9 ∨ n = 10 ∨ n = 11 := by omega
  clear h h0 h1
  rcases h' with rfl | rfl | rfl | rfl | rfl | rfl | rfl | rfl | rfl | rfl | rfl | rfl
  · exact (by kernel_rfl : (Instr.index 30 (.agg #[.int .i64 x0, .int .i64 x1, .int .i64 x2, .int .i64 x3, .int .i64 x4, .int .i64 x5, .int .i64 x6, .int .i64 x7, .int .i64 x8, .int .i64 x9, .int .i64 x10, .int .i64 x11]) (.int .i64 0)).run Try.prog W = .ok (.int .i64 x0) W)
  · exact (by kernel_rfl : (Instr.index 30 (.agg #[.int .i64 x0, .int .i64 x1, .int .i64 x2, .int .i64 x3, .int .i64 x4, .int .i64 x5, .int .i64 x6, .int .i64 x7, .int .i64 x8, .int .i64 x9, .int .i64 x10, .int .i64 x11]) (.int .i64 1)).run Try.prog W = .ok (.int .i64 x1) W)
  · exact (by kernel_rfl : (Instr.index 30 (.agg #[.int .i64 x0, .int .i64 x1, .int .i64 x2, .int .i64 x3, .int .i64 x4, .int .i64 x5, .int .i64 x6, .int .i64 x7, .int .i64 x8, .int .i64 x9, .int .i64 x10, .int .i64 x11]) (.int .i64 2)).run Try.prog W = .ok (.int .i64 x2) W)
  · exact (by kernel_rfl : (Instr.index 30 (.agg #[.int .i64 x0, .int .i64 x1, .int .i64 x2, .int .i64 x3, .int .i64 x4, .int .i64 x5, .int .i64 x6, .int .i64 x7, .int .i64 x8, .int .i64 x9, .int .i64 x10, .int .i64 x11]) (.int .i64 3)).run Try.prog W = .ok (.int .i64 x3) W)
  · exact (by kernel_rfl : (Instr.index 30 (.agg #[.int .i64 x0, .int .i64 x1, .int .i64 x2, .int .i64 x3, .int .i64 x4, .int .i64 x5, .int .i64 x6, .int .i64 x7, .int .i64 x8, .int .i64 x9, .int .i64 x10, .int .i64 x11]) (.int .i64 4)).run Try.prog W = .ok (.int .i64 x4) W)
  · exact (by kernel_rfl : (Instr.index 30 (.agg #[.int .i64 x0, .int .i64 x1, .int .i64 x2, .int .i64 x3, .int .i64 x4, .int .i64 x5, .int .i64 x6, .int .i64 x7, .int .i64 x8, .int .i64 x9, .int .i64 x10, .int .i64 x11]) (.int .i64 5)).run Try.prog W = .ok (.int .i64 x5) W)
  · exact (by kernel_rfl : (Instr.index 30 (.agg #[.int .i64 x0, .int .i64 x1, .int .i64 x2, .int .i64 x3, .int .i64 x4, .int .i64 x5, .int .i64 x6, .int .i64 x7, .int .i64 x8, .int .i64 x9, .int .i64 x10, .int .i64 x11]) (.int .i64 6)).run Try.prog W = .ok (.int .i64 x6) W)
  · exact (by kernel_rfl : (Instr.index 30 (.agg #[.int .i64 x0, .int .i64 x1, .int .i64 x2, .int .i64 x3, .int .i64 x4, .int .i64 x5, .int .i64 x6, .int .i64 x7, .int .i64 x8, .int .i64 x9, .int .i64 x10, .int .i64 x11]) (.int .i64 7)).run Try.prog W = .ok (.int .i64 x7) W)
  · exact (by kernel_rfl : (Instr.index 30 (.agg #[.int .i64 x0, .int .i64 x1, .int .i64 x2, .int .i64 x3, .int .i64 x4, .int .i64 x5, .int .i64 x6, .int .i64 x7, .int .i64 x8, .int .i64 x9, .int .i64 x10, .int .i64 x11]) (.int .i64 8)).run Try.prog W = .ok (.int .i64 x8) W)
  · exact (by kernel_rfl : (Instr.index 30 (.agg #[.int .i64 x0, .int .i64 x1, .int .i64 x2, .int .i64 x3, .int .i64 x4, .int .i64 x5, .int .i64 x6, .int .i64 x7, .int .i64 x8, .int .i64 x9, .int .i64 x10, .int .i64 x11]) (.int .i64 9)).run Try.prog W = .ok (.int .i64 x9) W)
  · exact (by kernel_rfl : (Instr.index 30 (.agg #[.int .i64 x0, .int .i64 x1, .int .i64 x2, .int .i64 x3, .int .i64 x4, .int .i64 x5, .int .i64 x6, .int .i64 x7, .int .i64 x8, .int .i64 x9, .int .i64 x10, .int .i64 x11]) (.int .i64 10)).run Try.prog W = .ok (.int .i64 x10) W)
  · exact (by kernel_rfl : (Instr.index 30 (.agg #[.int .i64 x0, .int .i64 x1, .int .i64 x2, .int .i64 x3, .int .i64 x4, .int .i64 x5, .int .i64 x6, .int .i64 x7, .int .i64 x8, .int .i64 x9, .int .i64 x10, .int .i64 x11]) (.int .i64 11)).run Try.prog W = .ok (.int .i64 x11) W)
end Go.Proofs.Ytmppfpdaglkhkaa
