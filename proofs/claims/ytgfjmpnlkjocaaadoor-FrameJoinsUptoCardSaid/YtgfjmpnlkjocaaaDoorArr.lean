/- A place of an array that varies, read. No condition. -/
import Derived.Test.YtgfjmpnlkjocaaaDoorProg
import Derived.Test.YtgfjmpnlkjocaaaDoorWWords
import Derived.KernelRfl
namespace Go.Proofs.YtgfjmpnlkjocaaaDoor
open Go.RowKit
set_option linter.unusedVariables false
/-- The number at a place of a list. -/
def selI (l : List Int) (j : Int) : Int := l.getD j.toNat 0
theorem selI_at (k : IntKind) (l : List Int) (j : Int) (h0 : 0 ≤ j) (h1 : j < (l.length : Int)) : ((l.map (Value.int k)).toArray)[j.toNat]? = some (.int k (selI l j)) := by
  have h : j.toNat < l.length := by omega
  simp [selI, List.getElem?_map, List.getElem?_eq_getElem h]
theorem selI_at3 (k : IntKind) (pre : List Value) (l : List Int) (post : List Value) (j : Int) (h0 : 0 ≤ j) (h1 : j < (l.length : Int)) : ((pre ++ (l.map (Value.int k) ++ post)).toArray)[pre.length + j.toNat]? = some (.int k (selI l j)) := by
  have h : j.toNat < l.length := by omega
  rw [List.getElem?_toArray, List.getElem?_append_right (by omega), show pre.length + j.toNat - pre.length = j.toNat by omega, List.getElem?_append_left (by rw [List.length_map]; exact h)]
  simp [selI, List.getElem?_map, List.getElem?_eq_getElem h]
theorem sel_elem16 {W : World} {A : Addr} (k : IntKind) {x0 x1 x2 x3 x4 x5 x6 x7 x8 x9 x10 x11 x12 x13 x14 x15 : Int} (e0 : W.cell? A = some (.int k x0)) (e1 : W.cell? ⟨A.block, A.off + 1, none⟩ = some (.int k x1)) (e2 : W.cell? ⟨A.block, A.off + 2, none⟩ = some (.int k x2)) (e3 : W.cell? ⟨A.block, A.off + 3, none⟩ = some (.int k x3)) (e4 : W.cell? ⟨A.block, A.off + 4, none⟩ = some (.int k x4)) (e5 : W.cell? ⟨A.block, A.off + 5, none⟩ = some (.int k x5)) (e6 : W.cell? ⟨A.block, A.off + 6, none⟩ = some (.int k x6)) (e7 : W.cell? ⟨A.block, A.off + 7, none⟩ = some (.int k x7)) (e8 : W.cell? ⟨A.block, A.off + 8, none⟩ = some (.int k x8)) (e9 : W.cell? ⟨A.block, A.off + 9, none⟩ = some (.int k x9)) (e10 : W.cell? ⟨A.block, A.off + 10, none⟩ = some (.int k x10)) (e11 : W.cell? ⟨A.block, A.off + 11, none⟩ = some (.int k x11)) (e12 : W.cell? ⟨A.block, A.off + 12, none⟩ = some (.int k x12)) (e13 : W.cell? ⟨A.block, A.off + 13, none⟩ = some (.int k x13)) (e14 : W.cell? ⟨A.block, A.off + 14, none⟩ = some (.int k x14)) (e15 : W.cell? ⟨A.block, A.off + 15, none⟩ = some (.int k x15)) (j : Int) (h0 : 0 ≤ j) (h1 : j < 16) : W.cell? (A.add j.toNat) = some (.int k (selI [x0, x1, x2, x3, x4, x5, x6, x7, x8, x9, x10, x11, x12, x13, x14, x15] j)) := by
  obtain ⟨n, rfl⟩ := Int.eq_ofNat_of_zero_le h0
  have h : n < 16 := by omega
  have h' : n = 0 ∨ n = 1 ∨ n = 2 ∨ n = 3 ∨ n = 4 ∨ n = 5 ∨ n = 6 ∨ n = 7 ∨ n = 8 ∨ n = 9 ∨ n = 10 ∨ n = 11 ∨ n = 12 ∨ n = 13 ∨ n = 14 ∨ n = 15 := by omega
  clear h h0 h1
  rcases h' with rfl | rfl | rfl | rfl | rfl | rfl | rfl | rfl | rfl | rfl | rfl | rfl | rfl | rfl | rfl | rfl
  · exact e0
  · exact e1
  · exact e2
  · exact e3
  · exact e4
  · exact e5
  · exact e6
  · exact e7
  · exact e8
  · exact e9
  · exact e10
  · exact e11
  · exact e12
  · exact e13
  · exact e14
  · exact e15
theorem idxv_53 (x0 x1 x2 x3 x4 x5 x6 x7 x8 x9 x10 x11 x12 x13 x14 x15 j : Int) (h0 : 0 ≤ j) (h1 : j < 16) (W : World) : (Instr.index 53 (.agg #[.int .u32 x0, .int .u32 x1, .int .u32 x2, .int .u32 x3, .int .u32 x4, .int .u32 x5, .int .u32 x6, .int .u32 x7, .int .u32 x8, .int .u32 x9, .int .u32 x10, .int .u32 x11, .int .u32 x12, .int .u32 x13, .int .u32 x14, .int .u32 x15]) (.int .i64 j)).run Tryd.prog W = .ok (.int .u32 (selI [x0, x1, x2, x3, x4, x5, x6, x7, x8, x9, x10, x11, x12, x13, x14, x15] j)) W := by
  obtain ⟨n, rfl⟩ := Int.eq_ofNat_of_zero_le h0
  have h : n < 16 := by omega
  have h' : n = 0 ∨ n = 1 ∨ n = 2 ∨ n = 3 ∨ n = 4 ∨ n = 5 ∨ n = 6 ∨ n = 7 ∨ n = 8 ∨ n = 9 ∨ n = 10 ∨ n = 11 ∨ n = 12 ∨ n = 13 ∨ n = 14 ∨ n = 15 := by omega
  clear h h0 h1
  rcases h' with rfl | rfl | rfl | rfl | rfl | rfl | rfl | rfl | rfl | rfl | rfl | rfl | rfl | rfl | rfl | rfl
  · exact (by kernel_rfl : (Instr.index 53 (.agg #[.int .u32 x0, .int .u32 x1, .int .u32 x2, .int .u32 x3, .int .u32 x4, .int .u32 x5, .int .u32 x6, .int .u32 x7, .int .u32 x8, .int .u32 x9, .int .u32 x10, .int .u32 x11, .int .u32 x12, .int .u32 x13, .int .u32 x14, .int .u32 x15]) (.int .i64 0)).run Tryd.prog W = .ok (.int .u32 x0) W)
  · exact (by kernel_rfl : (Instr.index 53 (.agg #[.int .u32 x0, .int .u32 x1, .int .u32 x2, .int .u32 x3, .int .u32 x4, .int .u32 x5, .int .u32 x6, .int .u32 x7, .int .u32 x8, .int .u32 x9, .int .u32 x10, .int .u32 x11, .int .u32 x12, .int .u32 x13, .int .u32 x14, .int .u32 x15]) (.int .i64 1)).run Tryd.prog W = .ok (.int .u32 x1) W)
  · exact (by kernel_rfl : (Instr.index 53 (.agg #[.int .u32 x0, .int .u32 x1, .int .u32 x2, .int .u32 x3, .int .u32 x4, .int .u32 x5, .int .u32 x6, .int .u32 x7, .int .u32 x8, .int .u32 x9, .int .u32 x10, .int .u32 x11, .int .u32 x12, .int .u32 x13, .int .u32 x14, .int .u32 x15]) (.int .i64 2)).run Tryd.prog W = .ok (.int .u32 x2) W)
  · exact (by kernel_rfl : (Instr.index 53 (.agg #[.int .u32 x0, .int .u32 x1, .int .u32 x2, .int .u32 x3, .int .u32 x4, .int .u32 x5, .int .u32 x6, .int .u32 x7, .int .u32 x8, .int .u32 x9, .int .u32 x10, .int .u32 x11, .int .u32 x12, .int .u32 x13, .int .u32 x14, .int .u32 x15]) (.int .i64 3)).run Tryd.prog W = .ok (.int .u32 x3) W)
  · exact (by kernel_rfl : (Instr.index 53 (.agg #[.int .u32 x0, .int .u32 x1, .int .u32 x2, .int .u32 x3, .int .u32 x4, .int .u32 x5, .int .u32 x6, .int .u32 x7, .int .u32 x8, .int .u32 x9, .int .u32 x10, .int .u32 x11, .int .u32 x12, .int .u32 x13, .int .u32 x14, .int .u32 x15]) (.int .i64 4)).run Tryd.prog W = .ok (.int .u32 x4) W)
  · exact (by kernel_rfl : (Instr.index 53 (.agg #[.int .u32 x0, .int .u32 x1, .int .u32 x2, .int .u32 x3, .int .u32 x4, .int .u32 x5, .int .u32 x6, .int .u32 x7, .int .u32 x8, .int .u32 x9, .int .u32 x10, .int .u32 x11, .int .u32 x12, .int .u32 x13, .int .u32 x14, .int .u32 x15]) (.int .i64 5)).run Tryd.prog W = .ok (.int .u32 x5) W)
  · exact (by kernel_rfl : (Instr.index 53 (.agg #[.int .u32 x0, .int .u32 x1, .int .u32 x2, .int .u32 x3, .int .u32 x4, .int .u32 x5, .int .u32 x6, .int .u32 x7, .int .u32 x8, .int .u32 x9, .int .u32 x10, .int .u32 x11, .int .u32 x12, .int .u32 x13, .int .u32 x14, .int .u32 x15]) (.int .i64 6)).run Tryd.prog W = .ok (.int .u32 x6) W)
  · exact (by kernel_rfl : (Instr.index 53 (.agg #[.int .u32 x0, .int .u32 x1, .int .u32 x2, .int .u32 x3, .int .u32 x4, .int .u32 x5, .int .u32 x6, .int .u32 x7, .int .u32 x8, .int .u32 x9, .int .u32 x10, .int .u32 x11, .int .u32 x12, .int .u32 x13, .int .u32 x14, .int .u32 x15]) (.int .i64 7)).run Tryd.prog W = .ok (.int .u32 x7) W)
  · exact (by kernel_rfl : (Instr.index 53 (.agg #[.int .u32 x0, .int .u32 x1, .int .u32 x2, .int .u32 x3, .int .u32 x4, .int .u32 x5, .int .u32 x6, .int .u32 x7, .int .u32 x8, .int .u32 x9, .int .u32 x10, .int .u32 x11, .int .u32 x12, .int .u32 x13, .int .u32 x14, .int .u32 x15]) (.int .i64 8)).run Tryd.prog W = .ok (.int .u32 x8) W)
  · exact (by kernel_rfl : (Instr.index 53 (.agg #[.int .u32 x0, .int .u32 x1, .int .u32 x2, .int .u32 x3, .int .u32 x4, .int .u32 x5, .int .u32 x6, .int .u32 x7, .int .u32 x8, .int .u32 x9, .int .u32 x10, .int .u32 x11, .int .u32 x12, .int .u32 x13, .int .u32 x14, .int .u32 x15]) (.int .i64 9)).run Tryd.prog W = .ok (.int .u32 x9) W)
  · exact (by kernel_rfl : (Instr.index 53 (.agg #[.int .u32 x0, .int .u32 x1, .int .u32 x2, .int .u32 x3, .int .u32 x4, .int .u32 x5, .int .u32 x6, .int .u32 x7, .int .u32 x8, .int .u32 x9, .int .u32 x10, .int .u32 x11, .int .u32 x12, .int .u32 x13, .int .u32 x14, .int .u32 x15]) (.int .i64 10)).run Tryd.prog W = .ok (.int .u32 x10) W)
  · exact (by kernel_rfl : (Instr.index 53 (.agg #[.int .u32 x0, .int .u32 x1, .int .u32 x2, .int .u32 x3, .int .u32 x4, .int .u32 x5, .int .u32 x6, .int .u32 x7, .int .u32 x8, .int .u32 x9, .int .u32 x10, .int .u32 x11, .int .u32 x12, .int .u32 x13, .int .u32 x14, .int .u32 x15]) (.int .i64 11)).run Tryd.prog W = .ok (.int .u32 x11) W)
  · exact (by kernel_rfl : (Instr.index 53 (.agg #[.int .u32 x0, .int .u32 x1, .int .u32 x2, .int .u32 x3, .int .u32 x4, .int .u32 x5, .int .u32 x6, .int .u32 x7, .int .u32 x8, .int .u32 x9, .int .u32 x10, .int .u32 x11, .int .u32 x12, .int .u32 x13, .int .u32 x14, .int .u32 x15]) (.int .i64 12)).run Tryd.prog W = .ok (.int .u32 x12) W)
  · exact (by kernel_rfl : (Instr.index 53 (.agg #[.int .u32 x0, .int .u32 x1, .int .u32 x2, .int .u32 x3, .int .u32 x4, .int .u32 x5, .int .u32 x6, .int .u32 x7, .int .u32 x8, .int .u32 x9, .int .u32 x10, .int .u32 x11, .int .u32 x12, .int .u32 x13, .int .u32 x14, .int .u32 x15]) (.int .i64 13)).run Tryd.prog W = .ok (.int .u32 x13) W)
  · exact (by kernel_rfl : (Instr.index 53 (.agg #[.int .u32 x0, .int .u32 x1, .int .u32 x2, .int .u32 x3, .int .u32 x4, .int .u32 x5, .int .u32 x6, .int .u32 x7, .int .u32 x8, .int .u32 x9, .int .u32 x10, .int .u32 x11, .int .u32 x12, .int .u32 x13, .int .u32 x14, .int .u32 x15]) (.int .i64 14)).run Tryd.prog W = .ok (.int .u32 x14) W)
  · exact (by kernel_rfl : (Instr.index 53 (.agg #[.int .u32 x0, .int .u32 x1, .int .u32 x2, .int .u32 x3, .int .u32 x4, .int .u32 x5, .int .u32 x6, .int .u32 x7, .int .u32 x8, .int .u32 x9, .int .u32 x10, .int .u32 x11, .int .u32 x12, .int .u32 x13, .int .u32 x14, .int .u32 x15]) (.int .i64 15)).run Tryd.prog W = .ok (.int .u32 x15) W)
end Go.Proofs.YtgfjmpnlkjocaaaDoor
