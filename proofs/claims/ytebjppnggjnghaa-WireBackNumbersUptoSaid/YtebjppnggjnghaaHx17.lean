-- Written by stubprint.py (wip/) of this work, over the kit's print.py; parts by hand.
import Derived.Test.YtebjppnggjnghaaHx0
import Derived.Test.YtebjppnggjnghaaHx1
import Derived.Test.YtebjppnggjnghaaHx3
import Derived.Test.YtebjppnggjnghaaHx5
import Derived.Test.YtebjppnggjnghaaHx8
import Derived.Test.YtebjppnggjnghaaHx9
import Derived.Test.YtebjppnggjnghaaHx12
import Derived.Test.YtebjppnggjnghaaHx13
import Derived.Test.YtebjppnggjnghaaHx14
import Derived.Test.YtebjppnggjnghaaHx16
namespace Go.Proofs.Ytebjppnggjnghaa.H
open Go.RowKit Go.Proofs.YtebjppnggjnghaaW.PrintWords Go.Proofs.YtebjppnggjnghaaW.PrintLast Go.Proofs.YtebjppnggjnghaaW.PrintMore
attribute [local go_sem] max2_int min2_int max_two min_two max_three min_three max_four min_four   -- for this text's walks alone
set_option linter.unusedVariables false
set_option linter.unusedSimpArgs false

/-! ### arrearslaw4_WireBackNumbers: function 6 -/
mutual
def arrearslaw4_WireBackNumbers.j0 : Nat → Int → Bool → ByteArray → List Int → List Int → Int → Int → Bool → Option (Bool)
  | 0, _, _, _, _, _, _, _, _ => none
  | k + 1, x2, x3, x4, x5, x15, x16, x18, x66 => if x66 = true then (none) else ((wire_Int.f k x15 x18).bind fun bt299 => (if bt299.2.2 = true then (arrearslaw4_WireBackNumbers.j1 k x3 x4 x5 x15 x16 bt299.2.1 (bt299.1 != x2)) else (arrearslaw4_WireBackNumbers.j1 k x3 x4 x5 x15 x16 bt299.2.1 true)))
def arrearslaw4_WireBackNumbers.j1 : Nat → Bool → ByteArray → List Int → List Int → Int → Int → Bool → Option (Bool)
  | 0, _, _, _, _, _, _, _ => none
  | k + 1, x3, x4, x5, x15, x16, x18, x80 => if x80 = true then (none) else ((wire_Bool.f x15 x18).bind fun bt302 => (if bt302.2.2 = true then (arrearslaw4_WireBackNumbers.j2 k x4 x5 x15 x16 bt302.2.1 (bt302.1 != x3)) else (arrearslaw4_WireBackNumbers.j2 k x4 x5 x15 x16 bt302.2.1 true)))
def arrearslaw4_WireBackNumbers.j2 : Nat → ByteArray → List Int → List Int → Int → Int → Bool → Option (Bool)
  | 0, _, _, _, _, _, _ => none
  | k + 1, x4, x5, x15, x16, x18, x94 => if x94 = true then (none) else ((wire_Text.f k x15 x18).bind fun bt305 => (if bt305.2.2 = true then (arrearslaw4_WireBackNumbers.j3 k x5 x15 x16 bt305.2.1 (bt305.1.toList != x4.toList)) else (arrearslaw4_WireBackNumbers.j3 k x5 x15 x16 bt305.2.1 true)))
def arrearslaw4_WireBackNumbers.j3 : Nat → List Int → List Int → Int → Int → Bool → Option (Bool)
  | 0, _, _, _, _, _ => none
  | k + 1, x5, x15, x16, x18, x108 => if x108 = true then (none) else ((wire_Ints.f k x15 x18).bind fun bt308 => (if bt308.2.2 = true then (if bt308.2.1 = x16 then ((arrearslaw4_sameNums.f k bt308.1 x5).bind fun t313 => (some t313)) else (none)) else (none)))
end
def arrearslaw4_WireBackNumbers.f (k : Nat) (l0 : List Int) (a1 : Int) (a2 : Int) (a3 : Bool) (a4 : ByteArray) (l5 : List Int) (l6 : List Int) : Option (Bool) := (arrearslaw4_copied.f k l0).bind fun t257 => ((wire_PutUint.f a1).bind fun t260 => (if t257.length + t260.length < 140737488355328 then ((some (t257 ++ t260 : List Int)).bind fun y263 => ((wire_PutInt.f a2).bind fun t266 => (if y263.length + t266.length < 140737488355328 then ((some (y263 ++ t266 : List Int)).bind fun y269 => ((wire_PutBool.f a3).bind fun t272 => (if y269.length + t272.length < 140737488355328 then ((some (y269 ++ t272 : List Int)).bind fun y275 => ((wire_PutText.f a4).bind fun t278 => (if y275.length + t278.length < 140737488355328 then ((some (y275 ++ t278 : List Int)).bind fun y281 => ((arrearslaw4_nums.f l5).bind fun t284 => ((wire_PutInts.f k t284).bind fun t287 => (if y281.length + t287.length < 140737488355328 then ((some (y281 ++ t287 : List Int)).bind fun y290 => (if y290.length + l6.length < 140737488355328 then ((some (y290 ++ l6 : List Int)).bind fun y293 => ((wire_Uint.f k y293 (l0.length : Int)).bind fun bt296 => (if bt296.2.2 = true then (arrearslaw4_WireBackNumbers.j0 k a2 a3 a4 l5 y293 (y290.length : Int) bt296.2.1 (bt296.1 != a1)) else (arrearslaw4_WireBackNumbers.j0 k a2 a3 a4 l5 y293 (y290.length : Int) bt296.2.1 true)))) else (none))) else (none))))) else (none)))) else (none)))) else (none)))) else (none)))
theorem arrearslaw4_WireBackNumbers.mono_l : ∀ k, (∀ y0 y1 y2 y3 y4 y5 y6 y7, LeO (arrearslaw4_WireBackNumbers.j0 k y0 y1 y2 y3 y4 y5 y6 y7) (arrearslaw4_WireBackNumbers.j0 (k + 1) y0 y1 y2 y3 y4 y5 y6 y7)) ∧ (∀ y0 y1 y2 y3 y4 y5 y6, LeO (arrearslaw4_WireBackNumbers.j1 k y0 y1 y2 y3 y4 y5 y6) (arrearslaw4_WireBackNumbers.j1 (k + 1) y0 y1 y2 y3 y4 y5 y6)) ∧ (∀ y0 y1 y2 y3 y4 y5, LeO (arrearslaw4_WireBackNumbers.j2 k y0 y1 y2 y3 y4 y5) (arrearslaw4_WireBackNumbers.j2 (k + 1) y0 y1 y2 y3 y4 y5)) ∧ (∀ y0 y1 y2 y3 y4, LeO (arrearslaw4_WireBackNumbers.j3 k y0 y1 y2 y3 y4) (arrearslaw4_WireBackNumbers.j3 (k + 1) y0 y1 y2 y3 y4))
  | 0 => ⟨fun _ _ _ _ _ _ _ _ r h => by simp [arrearslaw4_WireBackNumbers.j0] at h, fun _ _ _ _ _ _ _ r h => by simp [arrearslaw4_WireBackNumbers.j1] at h, fun _ _ _ _ _ _ r h => by simp [arrearslaw4_WireBackNumbers.j2] at h, fun _ _ _ _ _ r h => by simp [arrearslaw4_WireBackNumbers.j3] at h⟩
  | k + 1 => by
    obtain ⟨ih0, ih1, ih2, ih3⟩ := arrearslaw4_WireBackNumbers.mono_l k
    refine ⟨?_, ?_, ?_, ?_⟩
    · intro y0 y1 y2 y3 y4 y5 y6 y7
      unfold arrearslaw4_WireBackNumbers.j0
      repeat' first
      | (with_reducible exact ih0 _ _ _ _ _ _ _ _)
      | (with_reducible exact ih1 _ _ _ _ _ _ _)
      | (with_reducible exact ih2 _ _ _ _ _ _)
      | (with_reducible exact ih3 _ _ _ _ _)
      | (with_reducible exact arrearslaw4_copied.mono _ _)
      | (with_reducible exact arrearslaw4_sameNums.mono _ _ _)
      | (with_reducible exact wire_Int.mono _ _ _)
      | (with_reducible exact wire_Ints.mono _ _ _)
      | (with_reducible exact wire_PutInts.mono _ _)
      | (with_reducible exact wire_Text.mono _ _ _)
      | (with_reducible exact wire_Uint.mono _ _ _)
      | (with_reducible exact LeO.refl _)
      | (with_reducible exact LeO.none _)
      | (with_reducible refine LeO.ite ?_ ?_)
      | (with_reducible refine LeO.bind ?_ (fun _ => ?_))
      | exact ih0 _ _ _ _ _ _ _ _
      | exact ih1 _ _ _ _ _ _ _
      | exact ih2 _ _ _ _ _ _
      | exact ih3 _ _ _ _ _
      | exact arrearslaw4_copied.mono _ _
      | exact arrearslaw4_sameNums.mono _ _ _
      | exact wire_Int.mono _ _ _
      | exact wire_Ints.mono _ _ _
      | exact wire_PutInts.mono _ _
      | exact wire_Text.mono _ _ _
      | exact wire_Uint.mono _ _ _
      | exact LeO.none _
      | refine LeO.ite ?_ ?_
      | refine LeO.bind ?_ (fun _ => ?_)
    · intro y0 y1 y2 y3 y4 y5 y6
      unfold arrearslaw4_WireBackNumbers.j1
      repeat' first
      | (with_reducible exact ih0 _ _ _ _ _ _ _ _)
      | (with_reducible exact ih1 _ _ _ _ _ _ _)
      | (with_reducible exact ih2 _ _ _ _ _ _)
      | (with_reducible exact ih3 _ _ _ _ _)
      | (with_reducible exact arrearslaw4_copied.mono _ _)
      | (with_reducible exact arrearslaw4_sameNums.mono _ _ _)
      | (with_reducible exact wire_Int.mono _ _ _)
      | (with_reducible exact wire_Ints.mono _ _ _)
      | (with_reducible exact wire_PutInts.mono _ _)
      | (with_reducible exact wire_Text.mono _ _ _)
      | (with_reducible exact wire_Uint.mono _ _ _)
      | (with_reducible exact LeO.refl _)
      | (with_reducible exact LeO.none _)
      | (with_reducible refine LeO.ite ?_ ?_)
      | (with_reducible refine LeO.bind ?_ (fun _ => ?_))
      | exact ih0 _ _ _ _ _ _ _ _
      | exact ih1 _ _ _ _ _ _ _
      | exact ih2 _ _ _ _ _ _
      | exact ih3 _ _ _ _ _
      | exact arrearslaw4_copied.mono _ _
      | exact arrearslaw4_sameNums.mono _ _ _
      | exact wire_Int.mono _ _ _
      | exact wire_Ints.mono _ _ _
      | exact wire_PutInts.mono _ _
      | exact wire_Text.mono _ _ _
      | exact wire_Uint.mono _ _ _
      | exact LeO.none _
      | refine LeO.ite ?_ ?_
      | refine LeO.bind ?_ (fun _ => ?_)
    · intro y0 y1 y2 y3 y4 y5
      unfold arrearslaw4_WireBackNumbers.j2
      repeat' first
      | (with_reducible exact ih0 _ _ _ _ _ _ _ _)
      | (with_reducible exact ih1 _ _ _ _ _ _ _)
      | (with_reducible exact ih2 _ _ _ _ _ _)
      | (with_reducible exact ih3 _ _ _ _ _)
      | (with_reducible exact arrearslaw4_copied.mono _ _)
      | (with_reducible exact arrearslaw4_sameNums.mono _ _ _)
      | (with_reducible exact wire_Int.mono _ _ _)
      | (with_reducible exact wire_Ints.mono _ _ _)
      | (with_reducible exact wire_PutInts.mono _ _)
      | (with_reducible exact wire_Text.mono _ _ _)
      | (with_reducible exact wire_Uint.mono _ _ _)
      | (with_reducible exact LeO.refl _)
      | (with_reducible exact LeO.none _)
      | (with_reducible refine LeO.ite ?_ ?_)
      | (with_reducible refine LeO.bind ?_ (fun _ => ?_))
      | exact ih0 _ _ _ _ _ _ _ _
      | exact ih1 _ _ _ _ _ _ _
      | exact ih2 _ _ _ _ _ _
      | exact ih3 _ _ _ _ _
      | exact arrearslaw4_copied.mono _ _
      | exact arrearslaw4_sameNums.mono _ _ _
      | exact wire_Int.mono _ _ _
      | exact wire_Ints.mono _ _ _
      | exact wire_PutInts.mono _ _
      | exact wire_Text.mono _ _ _
      | exact wire_Uint.mono _ _ _
      | exact LeO.none _
      | refine LeO.ite ?_ ?_
      | refine LeO.bind ?_ (fun _ => ?_)
    · intro y0 y1 y2 y3 y4
      unfold arrearslaw4_WireBackNumbers.j3
      repeat' first
      | (with_reducible exact ih0 _ _ _ _ _ _ _ _)
      | (with_reducible exact ih1 _ _ _ _ _ _ _)
      | (with_reducible exact ih2 _ _ _ _ _ _)
      | (with_reducible exact ih3 _ _ _ _ _)
      | (with_reducible exact arrearslaw4_copied.mono _ _)
      | (with_reducible exact arrearslaw4_sameNums.mono _ _ _)
      | (with_reducible exact wire_Int.mono _ _ _)
      | (with_reducible exact wire_Ints.mono _ _ _)
      | (with_reducible exact wire_PutInts.mono _ _)
      | (with_reducible exact wire_Text.mono _ _ _)
      | (with_reducible exact wire_Uint.mono _ _ _)
      | (with_reducible exact LeO.refl _)
      | (with_reducible exact LeO.none _)
      | (with_reducible refine LeO.ite ?_ ?_)
      | (with_reducible refine LeO.bind ?_ (fun _ => ?_))
      | exact ih0 _ _ _ _ _ _ _ _
      | exact ih1 _ _ _ _ _ _ _
      | exact ih2 _ _ _ _ _ _
      | exact ih3 _ _ _ _ _
      | exact arrearslaw4_copied.mono _ _
      | exact arrearslaw4_sameNums.mono _ _ _
      | exact wire_Int.mono _ _ _
      | exact wire_Ints.mono _ _ _
      | exact wire_PutInts.mono _ _
      | exact wire_Text.mono _ _ _
      | exact wire_Uint.mono _ _ _
      | exact LeO.none _
      | refine LeO.ite ?_ ?_
      | refine LeO.bind ?_ (fun _ => ?_)
theorem arrearslaw4_WireBackNumbers.mono : ∀ a0 a1 a2 a3 a4 a5 a6 k, LeO (arrearslaw4_WireBackNumbers.f k a0 a1 a2 a3 a4 a5 a6) (arrearslaw4_WireBackNumbers.f (k + 1) a0 a1 a2 a3 a4 a5 a6) := by
  intro a0 a1 a2 a3 a4 a5 a6 k
  obtain ⟨ih0, ih1, ih2, ih3⟩ := arrearslaw4_WireBackNumbers.mono_l k
  unfold arrearslaw4_WireBackNumbers.f
  repeat' first
      | (with_reducible exact ih0 _ _ _ _ _ _ _ _)
      | (with_reducible exact ih1 _ _ _ _ _ _ _)
      | (with_reducible exact ih2 _ _ _ _ _ _)
      | (with_reducible exact ih3 _ _ _ _ _)
      | (with_reducible exact arrearslaw4_copied.mono _ _)
      | (with_reducible exact arrearslaw4_sameNums.mono _ _ _)
      | (with_reducible exact wire_Int.mono _ _ _)
      | (with_reducible exact wire_Ints.mono _ _ _)
      | (with_reducible exact wire_PutInts.mono _ _)
      | (with_reducible exact wire_Text.mono _ _ _)
      | (with_reducible exact wire_Uint.mono _ _ _)
      | (with_reducible exact LeO.refl _)
      | (with_reducible exact LeO.none _)
      | (with_reducible refine LeO.ite ?_ ?_)
      | (with_reducible refine LeO.bind ?_ (fun _ => ?_))
      | exact ih0 _ _ _ _ _ _ _ _
      | exact ih1 _ _ _ _ _ _ _
      | exact ih2 _ _ _ _ _ _
      | exact ih3 _ _ _ _ _
      | exact arrearslaw4_copied.mono _ _
      | exact arrearslaw4_sameNums.mono _ _ _
      | exact wire_Int.mono _ _ _
      | exact wire_Ints.mono _ _ _
      | exact wire_PutInts.mono _ _
      | exact wire_Text.mono _ _ _
      | exact wire_Uint.mono _ _ _
      | exact LeO.none _
      | refine LeO.ite ?_ ?_
      | refine LeO.bind ?_ (fun _ => ?_)
set_option maxHeartbeats 8000000 in
set_option maxRecDepth 100000 in
theorem arrearslaw4_WireBackNumbers.calls (k : Nat) (A0 : Option Addr) (c0 : Nat) (l0 : List Int) (a1 : Int) (a2 : Int) (a3 : Bool) (a4 : ByteArray) (A5 : Option Addr) (c5 : Nat) (l5 : List Int) (A6 : Option Addr) (c6 : Nat) (l6 : List Int) (r : Bool) (w : World) (hr0 : Kd.C (Kd.int .u8) w A0 l0.length l0) (hc0 : l0.length ≤ c0) (hr5 : Kd.C (Kd.int .i64) w A5 l5.length l5) (hc5 : l5.length ≤ c5) (hr6 : Kd.C (Kd.int .u8) w A6 l6.length l6) (hc6 : l6.length ≤ c6) (h : arrearslaw4_WireBackNumbers.f k l0 a1 a2 a3 a4 l5 l6 = some r) :
    Calls Try.prog 6 #[.slice A0 l0.length c0, .int .u64 a1, .int .i64 a2, .bool a3, .string a4, .slice A5 l5.length c5, .slice A6 l6.length c6] w fun e w' => e = .returned (.bool r) ∧ Below w.heap.size w w' := by
  have HR0 := Aside0.mk hr0
  have HC0 := Aside0.mk hc0
  clear hr0 hc0
  have HR5 := Aside0.mk hr5
  have HC5 := Aside0.mk hc5
  clear hr5 hc5
  have HR6 := Aside0.mk hr6
  have HC6 := Aside0.mk hc6
  clear hr6 hc6
  have HB := Aside0.mk (Below.refl w.heap.size w)
  have H : ((arrearslaw4_copied.f k l0).bind fun t257 => ((wire_PutUint.f a1).bind fun t260 => (if t257.length + t260.length < 140737488355328 then ((some (t257 ++ t260 : List Int)).bind fun y263 => ((wire_PutInt.f a2).bind fun t266 => (if y263.length + t266.length < 140737488355328 then ((some (y263 ++ t266 : List Int)).bind fun y269 => ((wire_PutBool.f a3).bind fun t272 => (if y269.length + t272.length < 140737488355328 then ((some (y269 ++ t272 : List Int)).bind fun y275 => ((wire_PutText.f a4).bind fun t278 => (if y275.length + t278.length < 140737488355328 then ((some (y275 ++ t278 : List Int)).bind fun y281 => ((arrearslaw4_nums.f l5).bind fun t284 => ((wire_PutInts.f k t284).bind fun t287 => (if y281.length + t287.length < 140737488355328 then ((some (y281 ++ t287 : List Int)).bind fun y290 => (if y290.length + l6.length < 140737488355328 then ((some (y290 ++ l6 : List Int)).bind fun y293 => ((wire_Uint.f k y293 (l0.length : Int)).bind fun bt296 => (if bt296.2.2 = true then (arrearslaw4_WireBackNumbers.j0 k a2 a3 a4 l5 y293 (y290.length : Int) bt296.2.1 (bt296.1 != a1)) else (arrearslaw4_WireBackNumbers.j0 k a2 a3 a4 l5 y293 (y290.length : Int) bt296.2.1 true)))) else (none))) else (none))))) else (none)))) else (none)))) else (none)))) else (none)))) = some r := h
  clear h
  replace H := Option.bind_eq_some_iff.mp H
  obtain ⟨t257, A80, H⟩ := H
  replace H : ((wire_PutUint.f a1).bind fun t260 => (if t257.length + t260.length < 140737488355328 then ((some (t257 ++ t260 : List Int)).bind fun y263 => ((wire_PutInt.f a2).bind fun t266 => (if y263.length + t266.length < 140737488355328 then ((some (y263 ++ t266 : List Int)).bind fun y269 => ((wire_PutBool.f a3).bind fun t272 => (if y269.length + t272.length < 140737488355328 then ((some (y269 ++ t272 : List Int)).bind fun y275 => ((wire_PutText.f a4).bind fun t278 => (if y275.length + t278.length < 140737488355328 then ((some (y275 ++ t278 : List Int)).bind fun y281 => ((arrearslaw4_nums.f l5).bind fun t284 => ((wire_PutInts.f k t284).bind fun t287 => (if y281.length + t287.length < 140737488355328 then ((some (y281 ++ t287 : List Int)).bind fun y290 => (if y290.length + l6.length < 140737488355328 then ((some (y290 ++ l6 : List Int)).bind fun y293 => ((wire_Uint.f k y293 (l0.length : Int)).bind fun bt296 => (if bt296.2.2 = true then (arrearslaw4_WireBackNumbers.j0 k a2 a3 a4 l5 y293 (y290.length : Int) bt296.2.1 (bt296.1 != a1)) else (arrearslaw4_WireBackNumbers.j0 k a2 a3 a4 l5 y293 (y290.length : Int) bt296.2.1 true)))) else (none))) else (none))))) else (none)))) else (none)))) else (none)))) else (none))) = some r := H
  have A8 := Aside0.mk A80
  clear A80
  replace H := Option.bind_eq_some_iff.mp H
  obtain ⟨t260, A90, H⟩ := H
  replace H : (if t257.length + t260.length < 140737488355328 then ((some (t257 ++ t260 : List Int)).bind fun y263 => ((wire_PutInt.f a2).bind fun t266 => (if y263.length + t266.length < 140737488355328 then ((some (y263 ++ t266 : List Int)).bind fun y269 => ((wire_PutBool.f a3).bind fun t272 => (if y269.length + t272.length < 140737488355328 then ((some (y269 ++ t272 : List Int)).bind fun y275 => ((wire_PutText.f a4).bind fun t278 => (if y275.length + t278.length < 140737488355328 then ((some (y275 ++ t278 : List Int)).bind fun y281 => ((arrearslaw4_nums.f l5).bind fun t284 => ((wire_PutInts.f k t284).bind fun t287 => (if y281.length + t287.length < 140737488355328 then ((some (y281 ++ t287 : List Int)).bind fun y290 => (if y290.length + l6.length < 140737488355328 then ((some (y290 ++ l6 : List Int)).bind fun y293 => ((wire_Uint.f k y293 (l0.length : Int)).bind fun bt296 => (if bt296.2.2 = true then (arrearslaw4_WireBackNumbers.j0 k a2 a3 a4 l5 y293 (y290.length : Int) bt296.2.1 (bt296.1 != a1)) else (arrearslaw4_WireBackNumbers.j0 k a2 a3 a4 l5 y293 (y290.length : Int) bt296.2.1 true)))) else (none))) else (none))))) else (none)))) else (none)))) else (none)))) else (none)) = some r := H
  have A9 := Aside0.mk A90
  clear A90
  by_cases c10 : t257.length + t260.length < 140737488355328
  · rw [if_pos c10] at H
    have LMc10 := Aside0.mk c10
    clear c10
    obtain ⟨y263, hy263⟩ : ∃ y_ : List Int, y_ = (t257 ++ t260) := ⟨_, rfl⟩
    replace H : ((wire_PutInt.f a2).bind fun t266 => (if y263.length + t266.length < 140737488355328 then ((some (y263 ++ t266 : List Int)).bind fun y269 => ((wire_PutBool.f a3).bind fun t272 => (if y269.length + t272.length < 140737488355328 then ((some (y269 ++ t272 : List Int)).bind fun y275 => ((wire_PutText.f a4).bind fun t278 => (if y275.length + t278.length < 140737488355328 then ((some (y275 ++ t278 : List Int)).bind fun y281 => ((arrearslaw4_nums.f l5).bind fun t284 => ((wire_PutInts.f k t284).bind fun t287 => (if y281.length + t287.length < 140737488355328 then ((some (y281 ++ t287 : List Int)).bind fun y290 => (if y290.length + l6.length < 140737488355328 then ((some (y290 ++ l6 : List Int)).bind fun y293 => ((wire_Uint.f k y293 (l0.length : Int)).bind fun bt296 => (if bt296.2.2 = true then (arrearslaw4_WireBackNumbers.j0 k a2 a3 a4 l5 y293 (y290.length : Int) bt296.2.1 (bt296.1 != a1)) else (arrearslaw4_WireBackNumbers.j0 k a2 a3 a4 l5 y293 (y290.length : Int) bt296.2.1 true)))) else (none))) else (none))))) else (none)))) else (none)))) else (none))) = some r := by first | (rw [hy263]; with_reducible exact H) | (have H2_ := (Option.bind_some _ _).symm.trans H; rw [hy263]; with_reducible exact H2_) | (have H2_ := (Option.bind_some _ _).symm.trans H; with_reducible exact H2_) | with_reducible exact H | (rw [hy263]; exact H) | exact H
    have Ny263 := Aside0.mk hy263
    clear hy263
    replace H := Option.bind_eq_some_iff.mp H
    obtain ⟨t266, A110, H⟩ := H
    replace H : (if y263.length + t266.length < 140737488355328 then ((some (y263 ++ t266 : List Int)).bind fun y269 => ((wire_PutBool.f a3).bind fun t272 => (if y269.length + t272.length < 140737488355328 then ((some (y269 ++ t272 : List Int)).bind fun y275 => ((wire_PutText.f a4).bind fun t278 => (if y275.length + t278.length < 140737488355328 then ((some (y275 ++ t278 : List Int)).bind fun y281 => ((arrearslaw4_nums.f l5).bind fun t284 => ((wire_PutInts.f k t284).bind fun t287 => (if y281.length + t287.length < 140737488355328 then ((some (y281 ++ t287 : List Int)).bind fun y290 => (if y290.length + l6.length < 140737488355328 then ((some (y290 ++ l6 : List Int)).bind fun y293 => ((wire_Uint.f k y293 (l0.length : Int)).bind fun bt296 => (if bt296.2.2 = true then (arrearslaw4_WireBackNumbers.j0 k a2 a3 a4 l5 y293 (y290.length : Int) bt296.2.1 (bt296.1 != a1)) else (arrearslaw4_WireBackNumbers.j0 k a2 a3 a4 l5 y293 (y290.length : Int) bt296.2.1 true)))) else (none))) else (none))))) else (none)))) else (none)))) else (none)) = some r := H
    have A11 := Aside0.mk A110
    clear A110
    by_cases c12 : y263.length + t266.length < 140737488355328
    · rw [if_pos c12] at H
      have LMc12 := Aside0.mk c12
      clear c12
      obtain ⟨y269, hy269⟩ : ∃ y_ : List Int, y_ = (y263 ++ t266) := ⟨_, rfl⟩
      replace H : ((wire_PutBool.f a3).bind fun t272 => (if y269.length + t272.length < 140737488355328 then ((some (y269 ++ t272 : List Int)).bind fun y275 => ((wire_PutText.f a4).bind fun t278 => (if y275.length + t278.length < 140737488355328 then ((some (y275 ++ t278 : List Int)).bind fun y281 => ((arrearslaw4_nums.f l5).bind fun t284 => ((wire_PutInts.f k t284).bind fun t287 => (if y281.length + t287.length < 140737488355328 then ((some (y281 ++ t287 : List Int)).bind fun y290 => (if y290.length + l6.length < 140737488355328 then ((some (y290 ++ l6 : List Int)).bind fun y293 => ((wire_Uint.f k y293 (l0.length : Int)).bind fun bt296 => (if bt296.2.2 = true then (arrearslaw4_WireBackNumbers.j0 k a2 a3 a4 l5 y293 (y290.length : Int) bt296.2.1 (bt296.1 != a1)) else (arrearslaw4_WireBackNumbers.j0 k a2 a3 a4 l5 y293 (y290.length : Int) bt296.2.1 true)))) else (none))) else (none))))) else (none)))) else (none))) = some r := by first | (rw [hy269]; with_reducible exact H) | (have H2_ := (Option.bind_some _ _).symm.trans H; rw [hy269]; with_reducible exact H2_) | (have H2_ := (Option.bind_some _ _).symm.trans H; with_reducible exact H2_) | with_reducible exact H | (rw [hy269]; exact H) | exact H
      have Ny269 := Aside0.mk hy269
      clear hy269
      replace H := Option.bind_eq_some_iff.mp H
      obtain ⟨t272, A130, H⟩ := H
      replace H : (if y269.length + t272.length < 140737488355328 then ((some (y269 ++ t272 : List Int)).bind fun y275 => ((wire_PutText.f a4).bind fun t278 => (if y275.length + t278.length < 140737488355328 then ((some (y275 ++ t278 : List Int)).bind fun y281 => ((arrearslaw4_nums.f l5).bind fun t284 => ((wire_PutInts.f k t284).bind fun t287 => (if y281.length + t287.length < 140737488355328 then ((some (y281 ++ t287 : List Int)).bind fun y290 => (if y290.length + l6.length < 140737488355328 then ((some (y290 ++ l6 : List Int)).bind fun y293 => ((wire_Uint.f k y293 (l0.length : Int)).bind fun bt296 => (if bt296.2.2 = true then (arrearslaw4_WireBackNumbers.j0 k a2 a3 a4 l5 y293 (y290.length : Int) bt296.2.1 (bt296.1 != a1)) else (arrearslaw4_WireBackNumbers.j0 k a2 a3 a4 l5 y293 (y290.length : Int) bt296.2.1 true)))) else (none))) else (none))))) else (none)))) else (none)) = some r := H
      have A13 := Aside0.mk A130
      clear A130
      by_cases c14 : y269.length + t272.length < 140737488355328
      · rw [if_pos c14] at H
        have LMc14 := Aside0.mk c14
        clear c14
        obtain ⟨y275, hy275⟩ : ∃ y_ : List Int, y_ = (y269 ++ t272) := ⟨_, rfl⟩
        replace H : ((wire_PutText.f a4).bind fun t278 => (if y275.length + t278.length < 140737488355328 then ((some (y275 ++ t278 : List Int)).bind fun y281 => ((arrearslaw4_nums.f l5).bind fun t284 => ((wire_PutInts.f k t284).bind fun t287 => (if y281.length + t287.length < 140737488355328 then ((some (y281 ++ t287 : List Int)).bind fun y290 => (if y290.length + l6.length < 140737488355328 then ((some (y290 ++ l6 : List Int)).bind fun y293 => ((wire_Uint.f k y293 (l0.length : Int)).bind fun bt296 => (if bt296.2.2 = true then (arrearslaw4_WireBackNumbers.j0 k a2 a3 a4 l5 y293 (y290.length : Int) bt296.2.1 (bt296.1 != a1)) else (arrearslaw4_WireBackNumbers.j0 k a2 a3 a4 l5 y293 (y290.length : Int) bt296.2.1 true)))) else (none))) else (none))))) else (none))) = some r := by first | (rw [hy275]; with_reducible exact H) | (have H2_ := (Option.bind_some _ _).symm.trans H; rw [hy275]; with_reducible exact H2_) | (have H2_ := (Option.bind_some _ _).symm.trans H; with_reducible exact H2_) | with_reducible exact H | (rw [hy275]; exact H) | exact H
        have Ny275 := Aside0.mk hy275
        clear hy275
        replace H := Option.bind_eq_some_iff.mp H
        obtain ⟨t278, A150, H⟩ := H
        replace H : (if y275.length + t278.length < 140737488355328 then ((some (y275 ++ t278 : List Int)).bind fun y281 => ((arrearslaw4_nums.f l5).bind fun t284 => ((wire_PutInts.f k t284).bind fun t287 => (if y281.length + t287.length < 140737488355328 then ((some (y281 ++ t287 : List Int)).bind fun y290 => (if y290.length + l6.length < 140737488355328 then ((some (y290 ++ l6 : List Int)).bind fun y293 => ((wire_Uint.f k y293 (l0.length : Int)).bind fun bt296 => (if bt296.2.2 = true then (arrearslaw4_WireBackNumbers.j0 k a2 a3 a4 l5 y293 (y290.length : Int) bt296.2.1 (bt296.1 != a1)) else (arrearslaw4_WireBackNumbers.j0 k a2 a3 a4 l5 y293 (y290.length : Int) bt296.2.1 true)))) else (none))) else (none))))) else (none)) = some r := H
        have A15 := Aside0.mk A150
        clear A150
        by_cases c16 : y275.length + t278.length < 140737488355328
        · rw [if_pos c16] at H
          have LMc16 := Aside0.mk c16
          clear c16
          obtain ⟨y281, hy281⟩ : ∃ y_ : List Int, y_ = (y275 ++ t278) := ⟨_, rfl⟩
          replace H : ((arrearslaw4_nums.f l5).bind fun t284 => ((wire_PutInts.f k t284).bind fun t287 => (if y281.length + t287.length < 140737488355328 then ((some (y281 ++ t287 : List Int)).bind fun y290 => (if y290.length + l6.length < 140737488355328 then ((some (y290 ++ l6 : List Int)).bind fun y293 => ((wire_Uint.f k y293 (l0.length : Int)).bind fun bt296 => (if bt296.2.2 = true then (arrearslaw4_WireBackNumbers.j0 k a2 a3 a4 l5 y293 (y290.length : Int) bt296.2.1 (bt296.1 != a1)) else (arrearslaw4_WireBackNumbers.j0 k a2 a3 a4 l5 y293 (y290.length : Int) bt296.2.1 true)))) else (none))) else (none)))) = some r := by first | (rw [hy281]; with_reducible exact H) | (have H2_ := (Option.bind_some _ _).symm.trans H; rw [hy281]; with_reducible exact H2_) | (have H2_ := (Option.bind_some _ _).symm.trans H; with_reducible exact H2_) | with_reducible exact H | (rw [hy281]; exact H) | exact H
          have Ny281 := Aside0.mk hy281
          clear hy281
          replace H := Option.bind_eq_some_iff.mp H
          obtain ⟨t284, A170, H⟩ := H
          replace H : ((wire_PutInts.f k t284).bind fun t287 => (if y281.length + t287.length < 140737488355328 then ((some (y281 ++ t287 : List Int)).bind fun y290 => (if y290.length + l6.length < 140737488355328 then ((some (y290 ++ l6 : List Int)).bind fun y293 => ((wire_Uint.f k y293 (l0.length : Int)).bind fun bt296 => (if bt296.2.2 = true then (arrearslaw4_WireBackNumbers.j0 k a2 a3 a4 l5 y293 (y290.length : Int) bt296.2.1 (bt296.1 != a1)) else (arrearslaw4_WireBackNumbers.j0 k a2 a3 a4 l5 y293 (y290.length : Int) bt296.2.1 true)))) else (none))) else (none))) = some r := H
          have A17 := Aside0.mk A170
          clear A170
          replace H := Option.bind_eq_some_iff.mp H
          obtain ⟨t287, A180, H⟩ := H
          replace H : (if y281.length + t287.length < 140737488355328 then ((some (y281 ++ t287 : List Int)).bind fun y290 => (if y290.length + l6.length < 140737488355328 then ((some (y290 ++ l6 : List Int)).bind fun y293 => ((wire_Uint.f k y293 (l0.length : Int)).bind fun bt296 => (if bt296.2.2 = true then (arrearslaw4_WireBackNumbers.j0 k a2 a3 a4 l5 y293 (y290.length : Int) bt296.2.1 (bt296.1 != a1)) else (arrearslaw4_WireBackNumbers.j0 k a2 a3 a4 l5 y293 (y290.length : Int) bt296.2.1 true)))) else (none))) else (none)) = some r := H
          have A18 := Aside0.mk A180
          clear A180
          by_cases c19 : y281.length + t287.length < 140737488355328
          · rw [if_pos c19] at H
            have LMc19 := Aside0.mk c19
            clear c19
            obtain ⟨y290, hy290⟩ : ∃ y_ : List Int, y_ = (y281 ++ t287) := ⟨_, rfl⟩
            replace H : (if y290.length + l6.length < 140737488355328 then ((some (y290 ++ l6 : List Int)).bind fun y293 => ((wire_Uint.f k y293 (l0.length : Int)).bind fun bt296 => (if bt296.2.2 = true then (arrearslaw4_WireBackNumbers.j0 k a2 a3 a4 l5 y293 (y290.length : Int) bt296.2.1 (bt296.1 != a1)) else (arrearslaw4_WireBackNumbers.j0 k a2 a3 a4 l5 y293 (y290.length : Int) bt296.2.1 true)))) else (none)) = some r := by first | (rw [hy290]; with_reducible exact H) | (have H2_ := (Option.bind_some _ _).symm.trans H; rw [hy290]; with_reducible exact H2_) | (have H2_ := (Option.bind_some _ _).symm.trans H; with_reducible exact H2_) | with_reducible exact H | (rw [hy290]; exact H) | exact H
            have Ny290 := Aside0.mk hy290
            clear hy290
            by_cases c20 : y290.length + l6.length < 140737488355328
            · rw [if_pos c20] at H
              have LMc20 := Aside0.mk c20
              clear c20
              obtain ⟨y293, hy293⟩ : ∃ y_ : List Int, y_ = (y290 ++ l6) := ⟨_, rfl⟩
              replace H : ((wire_Uint.f k y293 (l0.length : Int)).bind fun bt296 => (if bt296.2.2 = true then (arrearslaw4_WireBackNumbers.j0 k a2 a3 a4 l5 y293 (y290.length : Int) bt296.2.1 (bt296.1 != a1)) else (arrearslaw4_WireBackNumbers.j0 k a2 a3 a4 l5 y293 (y290.length : Int) bt296.2.1 true))) = some r := by first | (rw [hy293]; with_reducible exact H) | (have H2_ := (Option.bind_some _ _).symm.trans H; rw [hy293]; with_reducible exact H2_) | (have H2_ := (Option.bind_some _ _).symm.trans H; with_reducible exact H2_) | with_reducible exact H | (rw [hy293]; exact H) | exact H
              have Ny293 := Aside0.mk hy293
              clear hy293
              replace H := Option.bind_eq_some_iff.mp H
              obtain ⟨⟨t296, t297, t298⟩, A210, H⟩ := H
              replace H : (if t298 = true then (arrearslaw4_WireBackNumbers.j0 k a2 a3 a4 l5 y293 (y290.length : Int) t297 (t296 != a1)) else (arrearslaw4_WireBackNumbers.j0 k a2 a3 a4 l5 y293 (y290.length : Int) t297 true)) = some r := H
              have A21 := Aside0.mk A210
              clear A210
              have HC22 := Aside0.mk H
              clear H
              go_enter Try.func6, Try.ntmps6
              go_upto_region 10 with (first | ((with_reducible refine gate_callee (f := 25) rfl ?_); refine goesL_ (some 25) rfl rfl Try.func25 (by kernel_rfl) rfl #[.slice A0 l0.length c0] rfl (by (try simp only [List.map_toArray, List.map_cons, List.map_nil]); first | done | rfl | (simp only [List.length_drop, List.length_take]; rfl)) ?_; (with_reducible refine (arrearslaw4_copied.calls k _ _ l0 t257 _ ?side1 ?side2 A8.out).mono ?_); (case side1 => repeat (first | exact HR0.out | (with_reducible refine Kd.C_alloc ?_ _) | (with_reducible refine Kd.C_drewN ?_ _) | (with_reducible refine Kd.C_drew ?_))); (case side2 => exact HC0.out); rintro e w23 ⟨v258, rfl, ho0, hb⟩; refine ⟨_, rfl, ?_⟩; have n0_ := Aside0.mk (Kd.R_lower ho0 (below_size (by repeat (first | (with_reducible first | exact HB.out | apply below_alloc | apply pw_below_drewN | apply below_drew1) | exact HB.out)))); have n1_ := Aside0.mk (below_step (by repeat (first | (with_reducible first | exact HB.out | apply below_alloc | apply pw_below_drewN | apply below_drew1) | exact HB.out)) hb); clear HB; have HO259 := n0_; have HB := n1_; clear n0_ n1_; (try clear hb); (try clear hb2); (try clear hk); (try clear hi); (try clear ho0)) | ((with_reducible refine gate_callee (f := 15) rfl ?_); refine goesL_ (some 28) rfl rfl Try.func15 (by kernel_rfl) rfl #[.int .u64 a1] rfl (by (try simp only [List.map_toArray, List.map_cons, List.map_nil]); first | done | rfl | (simp only [List.length_drop, List.length_take]; rfl)) ?_; (with_reducible refine (wire_PutUint.calls a1 t260 _ A9.out).mono ?_); rintro e w24 ⟨v261, rfl, ho0, hb⟩; refine ⟨_, rfl, ?_⟩; have n0_ := Aside0.mk (Kd.R_elder' (by (with_reducible repeat (first | apply Kd.R_alloc | apply Kd.R_drewN | apply Kd.R_drew)); exact HO259.out) (Kd.R_base ho0) hb); have n1_ := Aside0.mk (Kd.R_lower (Kd.R_new' ho0 (Kd.R_lt (by (with_reducible repeat (first | apply Kd.R_alloc | apply Kd.R_drewN | apply Kd.R_drew)); exact HO259.out))) (below_size (by repeat (first | (with_reducible first | exact HB.out | apply below_alloc | apply pw_below_drewN | apply below_drew1) | exact HB.out)))); have n2_ := Aside0.mk (below_step (by repeat (first | (with_reducible first | exact HB.out | apply below_alloc | apply pw_below_drewN | apply below_drew1) | exact HB.out)) hb); clear HO259; clear HB; have HO259 := n0_; have HO262 := n1_; have HB := n2_; clear n0_ n1_ n2_; (try clear hb); (try clear hb2); (try clear hk); (try clear hi); (try clear ho0); obtain ⟨Ao26, co26, eo26⟩ := Kd.R_slice HO262.out; subst eo26) | ((with_reducible refine gate_builtin (b := .append) (xs := #[.tmp 26, .tmp 28]) rfl ?_); at_builtin; refine Kd.R_append_rows (Kd.int .u8) (w0 := w) w.heap.size rfl (.tmp 26) (.tmp 28) 25 5 (.int .u8 0) 1 rfl Try.underlying25 info5 rfl (by decide) (by omega) v258 t257 t260 _ _ _ (fun k_ => some k_ ≠ (.slice Ao26 t260.length co26 : Value).ownBlock) (fun _ => False) rfl rfl ?aO ?aR (fun _ _ h => h) (fun _ h => h.elim) ?aF ?aB ?aS ?aL ?_; (case aR => repeat (first | exact (Kd.R_reads' HO262.out).2.2 | (with_reducible refine Kd.C_alloc ?_ _) | (with_reducible refine Kd.C_drewN ?_ _) | (with_reducible refine Kd.C_drew ?_))); (case aB => exact (by repeat (first | (with_reducible first | exact HB.out | apply below_alloc | apply pw_below_drewN | apply below_drew1) | exact HB.out))); (case aF => exact (fun k_ hk => Kd.fresh' (Kd.R_lt (by (with_reducible repeat (first | apply Kd.R_alloc | apply Kd.R_drewN | apply Kd.R_drew)); exact HO262.out)) k_ hk)); (case aO => exact (by (with_reducible repeat (first | apply Kd.R_alloc | apply Kd.R_drewN | apply Kd.R_drew)); exact Kd.R_mono HO259.out (fun _ hk => hk.2))); (case aS => exact (below_size (by repeat (first | (with_reducible first | exact HB.out | apply below_alloc | apply pw_below_drewN | apply below_drew1) | exact HB.out)))); (case aL => have := LMc10.out; omega); intro v264 w25 ho hb hg hat; rw [← Ny263.out] at ho; have n0_ := Aside0.mk (Kd.R_after (ok := (fun _ => True)) (by (with_reducible repeat (first | apply Kd.R_alloc | apply Kd.R_drewN | apply Kd.R_drew)); exact HO262.out) hg hat); have n1_ := Aside0.mk (hb); have n2_ := Aside0.mk (ho); clear HO262; clear HB; clear HO259; have HO262 := n0_; have HB := n1_; have HO265 := n2_; clear n0_ n1_ n2_; clear ho hb hg hat) | ((with_reducible refine gate_callee (f := 11) rfl ?_); refine goesL_ (some 32) rfl rfl Try.func11 (by kernel_rfl) rfl #[.int .i64 a2] rfl (by (try simp only [List.map_toArray, List.map_cons, List.map_nil]); first | done | rfl | (simp only [List.length_drop, List.length_take]; rfl)) ?_; (with_reducible refine (wire_PutInt.calls a2 t266 _ A11.out).mono ?_); rintro e w27 ⟨v267, rfl, ho0, hb⟩; refine ⟨_, rfl, ?_⟩; have n0_ := Aside0.mk (Kd.R_elder' (by (with_reducible repeat (first | apply Kd.R_alloc | apply Kd.R_drewN | apply Kd.R_drew)); exact HO262.out) (Kd.R_base ho0) hb); have n1_ := Aside0.mk (Kd.R_elder' (by (with_reducible repeat (first | apply Kd.R_alloc | apply Kd.R_drewN | apply Kd.R_drew)); exact HO265.out) (Kd.R_base ho0) hb); have n2_ := Aside0.mk (Kd.R_lower (Kd.R_new' (Kd.R_new' ho0 (Kd.R_lt (by (with_reducible repeat (first | apply Kd.R_alloc | apply Kd.R_drewN | apply Kd.R_drew)); exact HO262.out))) (Kd.R_lt (by (with_reducible repeat (first | apply Kd.R_alloc | apply Kd.R_drewN | apply Kd.R_drew)); exact HO265.out))) (below_size (by repeat (first | (with_reducible first | exact HB.out | apply below_alloc | apply pw_below_drewN | apply below_drew1) | exact HB.out)))); have n3_ := Aside0.mk (below_step (by repeat (first | (with_reducible first | exact HB.out | apply below_alloc | apply pw_below_drewN | apply below_drew1) | exact HB.out)) hb); clear HO262; clear HO265; clear HB; have HO262 := n0_; have HO265 := n1_; have HO268 := n2_; have HB := n3_; clear n0_ n1_ n2_ n3_; (try clear hb); (try clear hb2); (try clear hk); (try clear hi); (try clear ho0); obtain ⟨Ao29, co29, eo29⟩ := Kd.R_slice HO268.out; subst eo29) | ((with_reducible refine gate_builtin (b := .append) (xs := #[.tmp 30, .tmp 32]) rfl ?_); at_builtin; refine Kd.R_append_rows (Kd.int .u8) (w0 := w) w.heap.size rfl (.tmp 30) (.tmp 32) 25 5 (.int .u8 0) 1 rfl Try.underlying25 info5 rfl (by decide) (by omega) v264 y263 t266 _ _ _ (fun k_ => some k_ ≠ (.slice Ao26 t260.length co26 : Value).ownBlock ∧ some k_ ≠ (.slice Ao29 t266.length co29 : Value).ownBlock) (fun _ => False) rfl rfl ?aO ?aR (fun _ _ h => h) (fun _ h => h.elim) ?aF ?aB ?aS ?aL ?_; (case aR => repeat (first | exact (Kd.R_reads' HO268.out).2.2 | (with_reducible refine Kd.C_alloc ?_ _) | (with_reducible refine Kd.C_drewN ?_ _) | (with_reducible refine Kd.C_drew ?_))); (case aB => exact (by repeat (first | (with_reducible first | exact HB.out | apply below_alloc | apply pw_below_drewN | apply below_drew1) | exact HB.out))); (case aF => exact (fun k_ hk => ⟨Kd.fresh' (Kd.R_lt (by (with_reducible repeat (first | apply Kd.R_alloc | apply Kd.R_drewN | apply Kd.R_drew)); exact HO262.out)) k_ hk, Kd.fresh' (Kd.R_lt (by (with_reducible repeat (first | apply Kd.R_alloc | apply Kd.R_drewN | apply Kd.R_drew)); exact HO268.out)) k_ hk⟩)); (case aO => exact (by (with_reducible repeat (first | apply Kd.R_alloc | apply Kd.R_drewN | apply Kd.R_drew)); exact HO265.out)); (case aS => exact (below_size (by repeat (first | (with_reducible first | exact HB.out | apply below_alloc | apply pw_below_drewN | apply below_drew1) | exact HB.out)))); (case aL => have := LMc12.out; omega); intro v270 w28 ho hb hg hat; rw [← Ny269.out] at ho; have n0_ := Aside0.mk (Kd.R_after (ok := (fun k_ => some k_ ≠ (.slice Ao29 t266.length co29 : Value).ownBlock)) (by (with_reducible repeat (first | apply Kd.R_alloc | apply Kd.R_drewN | apply Kd.R_drew)); exact Kd.R_mono HO262.out (fun _ hk => ⟨hk.2, hk.1.2⟩)) hg hat); have n1_ := Aside0.mk (Kd.R_after (ok := (fun k_ => some k_ ≠ (.slice Ao26 t260.length co26 : Value).ownBlock)) (by (with_reducible repeat (first | apply Kd.R_alloc | apply Kd.R_drewN | apply Kd.R_drew)); exact Kd.R_mono HO268.out (fun _ hk => ⟨hk.1.2, hk.2⟩)) hg hat); have n2_ := Aside0.mk (hb); have n3_ := Aside0.mk (ho); clear HO262; clear HO268; clear HB; clear HO265; have HO262 := n0_; have HO268 := n1_; have HB := n2_; have HO271 := n3_; clear n0_ n1_ n2_ n3_; clear ho hb hg hat) | ((with_reducible refine gate_callee (f := 29) rfl ?_); refine goesL_ (some 36) rfl rfl Try.func29 (by kernel_rfl) rfl #[.bool a3] rfl (by (try simp only [List.map_toArray, List.map_cons, List.map_nil]); first | done | rfl | (simp only [List.length_drop, List.length_take]; rfl)) ?_; (with_reducible refine (wire_PutBool.calls a3 t272 _ A13.out).mono ?_); rintro e w30 ⟨v273, rfl, ho0, hb⟩; refine ⟨_, rfl, ?_⟩; have n0_ := Aside0.mk (Kd.R_elder' (by (with_reducible repeat (first | apply Kd.R_alloc | apply Kd.R_drewN | apply Kd.R_drew)); exact HO262.out) (Kd.R_base ho0) hb); have n1_ := Aside0.mk (Kd.R_elder' (by (with_reducible repeat (first | apply Kd.R_alloc | apply Kd.R_drewN | apply Kd.R_drew)); exact HO268.out) (Kd.R_base ho0) hb); have n2_ := Aside0.mk (Kd.R_elder' (by (with_reducible repeat (first | apply Kd.R_alloc | apply Kd.R_drewN | apply Kd.R_drew)); exact HO271.out) (Kd.R_base ho0) hb); have n3_ := Aside0.mk (Kd.R_lower (Kd.R_new' (Kd.R_new' (Kd.R_new' ho0 (Kd.R_lt (by (with_reducible repeat (first | apply Kd.R_alloc | apply Kd.R_drewN | apply Kd.R_drew)); exact HO262.out))) (Kd.R_lt (by (with_reducible repeat (first | apply Kd.R_alloc | apply Kd.R_drewN | apply Kd.R_drew)); exact HO268.out))) (Kd.R_lt (by (with_reducible repeat (first | apply Kd.R_alloc | apply Kd.R_drewN | apply Kd.R_drew)); exact HO271.out))) (below_size (by repeat (first | (with_reducible first | exact HB.out | apply below_alloc | apply pw_below_drewN | apply below_drew1) | exact HB.out)))); have n4_ := Aside0.mk (below_step (by repeat (first | (with_reducible first | exact HB.out | apply below_alloc | apply pw_below_drewN | apply below_drew1) | exact HB.out)) hb); clear HO262; clear HO268; clear HO271; clear HB; have HO262 := n0_; have HO268 := n1_; have HO271 := n2_; have HO274 := n3_; have HB := n4_; clear n0_ n1_ n2_ n3_ n4_; (try clear hb); (try clear hb2); (try clear hk); (try clear hi); (try clear ho0); obtain ⟨Ao32, co32, eo32⟩ := Kd.R_slice HO274.out; subst eo32) | ((with_reducible refine gate_builtin (b := .append) (xs := #[.tmp 34, .tmp 36]) rfl ?_); at_builtin; refine Kd.R_append_rows (Kd.int .u8) (w0 := w) w.heap.size rfl (.tmp 34) (.tmp 36) 25 5 (.int .u8 0) 1 rfl Try.underlying25 info5 rfl (by decide) (by omega) v270 y269 t272 _ _ _ (fun k_ => some k_ ≠ (.slice Ao26 t260.length co26 : Value).ownBlock ∧ some k_ ≠ (.slice Ao29 t266.length co29 : Value).ownBlock ∧ some k_ ≠ (.slice Ao32 t272.length co32 : Value).ownBlock) (fun _ => False) rfl rfl ?aO ?aR (fun _ _ h => h) (fun _ h => h.elim) ?aF ?aB ?aS ?aL ?_; (case aR => repeat (first | exact (Kd.R_reads' HO274.out).2.2 | (with_reducible refine Kd.C_alloc ?_ _) | (with_reducible refine Kd.C_drewN ?_ _) | (with_reducible refine Kd.C_drew ?_))); (case aB => exact (by repeat (first | (with_reducible first | exact HB.out | apply below_alloc | apply pw_below_drewN | apply below_drew1) | exact HB.out))); (case aF => exact (fun k_ hk => ⟨Kd.fresh' (Kd.R_lt (by (with_reducible repeat (first | apply Kd.R_alloc | apply Kd.R_drewN | apply Kd.R_drew)); exact HO262.out)) k_ hk, Kd.fresh' (Kd.R_lt (by (with_reducible repeat (first | apply Kd.R_alloc | apply Kd.R_drewN | apply Kd.R_drew)); exact HO268.out)) k_ hk, Kd.fresh' (Kd.R_lt (by (with_reducible repeat (first | apply Kd.R_alloc | apply Kd.R_drewN | apply Kd.R_drew)); exact HO274.out)) k_ hk⟩)); (case aO => exact (by (with_reducible repeat (first | apply Kd.R_alloc | apply Kd.R_drewN | apply Kd.R_drew)); exact Kd.R_mono HO271.out (fun _ hk => ⟨hk.1.1, ⟨hk.1.2, hk.2⟩⟩))); (case aS => exact (below_size (by repeat (first | (with_reducible first | exact HB.out | apply below_alloc | apply pw_below_drewN | apply below_drew1) | exact HB.out)))); (case aL => have := LMc14.out; omega); intro v276 w31 ho hb hg hat; rw [← Ny275.out] at ho; have n0_ := Aside0.mk (Kd.R_after (ok := (fun k_ => some k_ ≠ (.slice Ao29 t266.length co29 : Value).ownBlock ∧ some k_ ≠ (.slice Ao32 t272.length co32 : Value).ownBlock)) (by (with_reducible repeat (first | apply Kd.R_alloc | apply Kd.R_drewN | apply Kd.R_drew)); exact Kd.R_mono HO262.out (fun _ hk => ⟨⟨hk.1.1, hk.2⟩, hk.1.2⟩)) hg hat); have n1_ := Aside0.mk (Kd.R_after (ok := (fun k_ => some k_ ≠ (.slice Ao26 t260.length co26 : Value).ownBlock ∧ some k_ ≠ (.slice Ao32 t272.length co32 : Value).ownBlock)) (by (with_reducible repeat (first | apply Kd.R_alloc | apply Kd.R_drewN | apply Kd.R_drew)); exact Kd.R_mono HO268.out (fun _ hk => ⟨⟨hk.1.1, hk.2⟩, hk.1.2⟩)) hg hat); have n2_ := Aside0.mk (Kd.R_after (ok := (fun k_ => some k_ ≠ (.slice Ao26 t260.length co26 : Value).ownBlock ∧ some k_ ≠ (.slice Ao29 t266.length co29 : Value).ownBlock)) (by (with_reducible repeat (first | apply Kd.R_alloc | apply Kd.R_drewN | apply Kd.R_drew)); exact Kd.R_mono HO274.out (fun _ hk => ⟨⟨hk.1.1.2, hk.1.2⟩, hk.2⟩)) hg hat); have n3_ := Aside0.mk (hb); have n4_ := Aside0.mk (ho); clear HO262; clear HO268; clear HO274; clear HB; clear HO271; have HO262 := n0_; have HO268 := n1_; have HO274 := n2_; have HB := n3_; have HO277 := n4_; clear n0_ n1_ n2_ n3_ n4_; clear ho hb hg hat) | ((with_reducible refine gate_callee (f := 30) rfl ?_); refine goesL_ (some 40) rfl rfl Try.func30 (by kernel_rfl) rfl #[.string a4] rfl (by (try simp only [List.map_toArray, List.map_cons, List.map_nil]); first | done | rfl | (simp only [List.length_drop, List.length_take]; rfl)) ?_; (with_reducible refine (wire_PutText.calls a4 t278 _ A15.out).mono ?_); rintro e w33 ⟨v279, rfl, ho0, hb⟩; refine ⟨_, rfl, ?_⟩; have n0_ := Aside0.mk (Kd.R_elder' (by (with_reducible repeat (first | apply Kd.R_alloc | apply Kd.R_drewN | apply Kd.R_drew)); exact HO262.out) (Kd.R_base ho0) hb); have n1_ := Aside0.mk (Kd.R_elder' (by (with_reducible repeat (first | apply Kd.R_alloc | apply Kd.R_drewN | apply Kd.R_drew)); exact HO268.out) (Kd.R_base ho0) hb); have n2_ := Aside0.mk (Kd.R_elder' (by (with_reducible repeat (first | apply Kd.R_alloc | apply Kd.R_drewN | apply Kd.R_drew)); exact HO274.out) (Kd.R_base ho0) hb); have n3_ := Aside0.mk (Kd.R_elder' (by (with_reducible repeat (first | apply Kd.R_alloc | apply Kd.R_drewN | apply Kd.R_drew)); exact HO277.out) (Kd.R_base ho0) hb); have n4_ := Aside0.mk (Kd.R_lower (Kd.R_new' (Kd.R_new' (Kd.R_new' (Kd.R_new' ho0 (Kd.R_lt (by (with_reducible repeat (first | apply Kd.R_alloc | apply Kd.R_drewN | apply Kd.R_drew)); exact HO262.out))) (Kd.R_lt (by (with_reducible repeat (first | apply Kd.R_alloc | apply Kd.R_drewN | apply Kd.R_drew)); exact HO268.out))) (Kd.R_lt (by (with_reducible repeat (first | apply Kd.R_alloc | apply Kd.R_drewN | apply Kd.R_drew)); exact HO274.out))) (Kd.R_lt (by (with_reducible repeat (first | apply Kd.R_alloc | apply Kd.R_drewN | apply Kd.R_drew)); exact HO277.out))) (below_size (by repeat (first | (with_reducible first | exact HB.out | apply below_alloc | apply pw_below_drewN | apply below_drew1) | exact HB.out)))); have n5_ := Aside0.mk (below_step (by repeat (first | (with_reducible first | exact HB.out | apply below_alloc | apply pw_below_drewN | apply below_drew1) | exact HB.out)) hb); clear HO262; clear HO268; clear HO274; clear HO277; clear HB; have HO262 := n0_; have HO268 := n1_; have HO274 := n2_; have HO277 := n3_; have HO280 := n4_; have HB := n5_; clear n0_ n1_ n2_ n3_ n4_ n5_; (try clear hb); (try clear hb2); (try clear hk); (try clear hi); (try clear ho0); obtain ⟨Ao35, co35, eo35⟩ := Kd.R_slice HO280.out; subst eo35) | ((with_reducible refine gate_builtin (b := .append) (xs := #[.tmp 38, .tmp 40]) rfl ?_); at_builtin; refine Kd.R_append_rows (Kd.int .u8) (w0 := w) w.heap.size rfl (.tmp 38) (.tmp 40) 25 5 (.int .u8 0) 1 rfl Try.underlying25 info5 rfl (by decide) (by omega) v276 y275 t278 _ _ _ (fun k_ => some k_ ≠ (.slice Ao26 t260.length co26 : Value).ownBlock ∧ some k_ ≠ (.slice Ao29 t266.length co29 : Value).ownBlock ∧ some k_ ≠ (.slice Ao32 t272.length co32 : Value).ownBlock ∧ some k_ ≠ (.slice Ao35 t278.length co35 : Value).ownBlock) (fun _ => False) rfl rfl ?aO ?aR (fun _ _ h => h) (fun _ h => h.elim) ?aF ?aB ?aS ?aL ?_; (case aR => repeat (first | exact (Kd.R_reads' HO280.out).2.2 | (with_reducible refine Kd.C_alloc ?_ _) | (with_reducible refine Kd.C_drewN ?_ _) | (with_reducible refine Kd.C_drew ?_))); (case aB => exact (by repeat (first | (with_reducible first | exact HB.out | apply below_alloc | apply pw_below_drewN | apply below_drew1) | exact HB.out))); (case aF => exact (fun k_ hk => ⟨Kd.fresh' (Kd.R_lt (by (with_reducible repeat (first | apply Kd.R_alloc | apply Kd.R_drewN | apply Kd.R_drew)); exact HO262.out)) k_ hk, Kd.fresh' (Kd.R_lt (by (with_reducible repeat (first | apply Kd.R_alloc | apply Kd.R_drewN | apply Kd.R_drew)); exact HO268.out)) k_ hk, Kd.fresh' (Kd.R_lt (by (with_reducible repeat (first | apply Kd.R_alloc | apply Kd.R_drewN | apply Kd.R_drew)); exact HO274.out)) k_ hk, Kd.fresh' (Kd.R_lt (by (with_reducible repeat (first | apply Kd.R_alloc | apply Kd.R_drewN | apply Kd.R_drew)); exact HO280.out)) k_ hk⟩)); (case aO => exact (by (with_reducible repeat (first | apply Kd.R_alloc | apply Kd.R_drewN | apply Kd.R_drew)); exact Kd.R_mono HO277.out (fun _ hk => ⟨hk.1.1, ⟨hk.1.2.1, ⟨hk.1.2.2, hk.2⟩⟩⟩))); (case aS => exact (below_size (by repeat (first | (with_reducible first | exact HB.out | apply below_alloc | apply pw_below_drewN | apply below_drew1) | exact HB.out)))); (case aL => have := LMc16.out; omega); intro v282 w34 ho hb hg hat; rw [← Ny281.out] at ho; have n0_ := Aside0.mk (Kd.R_after (ok := (fun k_ => some k_ ≠ (.slice Ao29 t266.length co29 : Value).ownBlock ∧ some k_ ≠ (.slice Ao32 t272.length co32 : Value).ownBlock ∧ some k_ ≠ (.slice Ao35 t278.length co35 : Value).ownBlock)) (by (with_reducible repeat (first | apply Kd.R_alloc | apply Kd.R_drewN | apply Kd.R_drew)); exact Kd.R_mono HO262.out (fun _ hk => ⟨⟨hk.1.1.1, ⟨hk.1.1.2, hk.2⟩⟩, hk.1.2⟩)) hg hat); have n1_ := Aside0.mk (Kd.R_after (ok := (fun k_ => some k_ ≠ (.slice Ao26 t260.length co26 : Value).ownBlock ∧ some k_ ≠ (.slice Ao32 t272.length co32 : Value).ownBlock ∧ some k_ ≠ (.slice Ao35 t278.length co35 : Value).ownBlock)) (by (with_reducible repeat (first | apply Kd.R_alloc | apply Kd.R_drewN | apply Kd.R_drew)); exact Kd.R_mono HO268.out (fun _ hk => ⟨⟨hk.1.1.1, ⟨hk.1.1.2, hk.2⟩⟩, hk.1.2⟩)) hg hat); have n2_ := Aside0.mk (Kd.R_after (ok := (fun k_ => some k_ ≠ (.slice Ao26 t260.length co26 : Value).ownBlock ∧ some k_ ≠ (.slice Ao29 t266.length co29 : Value).ownBlock ∧ some k_ ≠ (.slice Ao35 t278.length co35 : Value).ownBlock)) (by (with_reducible repeat (first | apply Kd.R_alloc | apply Kd.R_drewN | apply Kd.R_drew)); exact Kd.R_mono HO274.out (fun _ hk => ⟨⟨hk.1.1.1, ⟨hk.1.1.2, hk.2⟩⟩, hk.1.2⟩)) hg hat); have n3_ := Aside0.mk (Kd.R_after (ok := (fun k_ => some k_ ≠ (.slice Ao26 t260.length co26 : Value).ownBlock ∧ some k_ ≠ (.slice Ao29 t266.length co29 : Value).ownBlock ∧ some k_ ≠ (.slice Ao32 t272.length co32 : Value).ownBlock)) (by (with_reducible repeat (first | apply Kd.R_alloc | apply Kd.R_drewN | apply Kd.R_drew)); exact Kd.R_mono HO280.out (fun _ hk => ⟨⟨hk.1.1.1.2, ⟨hk.1.1.2, hk.1.2⟩⟩, hk.2⟩)) hg hat); have n4_ := Aside0.mk (hb); have n5_ := Aside0.mk (ho); clear HO262; clear HO268; clear HO274; clear HO280; clear HB; clear HO277; have HO262 := n0_; have HO268 := n1_; have HO274 := n2_; have HO280 := n3_; have HB := n4_; have HO283 := n5_; clear n0_ n1_ n2_ n3_ n4_ n5_; clear ho hb hg hat) | ((with_reducible refine gate_callee (f := 8) rfl ?_); refine goesL_ (some 44) rfl rfl Try.func8 (by kernel_rfl) rfl #[.slice A5 l5.length c5] rfl (by (try simp only [List.map_toArray, List.map_cons, List.map_nil]); first | done | rfl | (simp only [List.length_drop, List.length_take]; rfl)) ?_; (with_reducible refine (arrearslaw4_nums.calls _ _ l5 t284 _ ?side1 ?side2 A17.out).mono ?_); (case side1 => repeat (first | exact (Kd.C_below HR5.out HB.out) | (with_reducible refine Kd.C_alloc ?_ _) | (with_reducible refine Kd.C_drewN ?_ _) | (with_reducible refine Kd.C_drew ?_))); (case side2 => exact HC5.out); rintro e w36 ⟨v285, rfl, ho0, hb⟩; refine ⟨_, rfl, ?_⟩; have n0_ := Aside0.mk (Kd.R_below (by (with_reducible repeat (first | apply Kd.R_alloc | apply Kd.R_drewN | apply Kd.R_drew)); exact HO262.out) hb); have n1_ := Aside0.mk (Kd.R_below (by (with_reducible repeat (first | apply Kd.R_alloc | apply Kd.R_drewN | apply Kd.R_drew)); exact HO268.out) hb); have n2_ := Aside0.mk (Kd.R_below (by (with_reducible repeat (first | apply Kd.R_alloc | apply Kd.R_drewN | apply Kd.R_drew)); exact HO274.out) hb); have n3_ := Aside0.mk (Kd.R_below (by (with_reducible repeat (first | apply Kd.R_alloc | apply Kd.R_drewN | apply Kd.R_drew)); exact HO280.out) hb); have n4_ := Aside0.mk (Kd.R_below (by (with_reducible repeat (first | apply Kd.R_alloc | apply Kd.R_drewN | apply Kd.R_drew)); exact HO283.out) hb); have n5_ := Aside0.mk (Kd.R_lower ho0 (below_size (by repeat (first | (with_reducible first | exact HB.out | apply below_alloc | apply pw_below_drewN | apply below_drew1) | exact HB.out)))); have n6_ := Aside0.mk (below_step (by repeat (first | (with_reducible first | exact HB.out | apply below_alloc | apply pw_below_drewN | apply below_drew1) | exact HB.out)) hb); clear HO262; clear HO268; clear HO274; clear HO280; clear HO283; clear HB; have HO262 := n0_; have HO268 := n1_; have HO274 := n2_; have HO280 := n3_; have HO283 := n4_; have HO286 := n5_; have HB := n6_; clear n0_ n1_ n2_ n3_ n4_ n5_ n6_; (try clear hb); (try clear hb2); (try clear hk); (try clear hi); (try clear ho0); obtain ⟨Ao37, co37, eo37⟩ := Kd.R_slice HO286.out; subst eo37) | ((with_reducible refine gate_callee (f := 31) rfl ?_); refine goesL_ (some 45) rfl rfl Try.func31 (by kernel_rfl) rfl #[.slice Ao37 t284.length co37] rfl (by (try simp only [List.map_toArray, List.map_cons, List.map_nil]); first | done | rfl | (simp only [List.length_drop, List.length_take]; rfl)) ?_; (with_reducible refine (wire_PutInts.calls k _ _ t284 t287 _ ?side1 ?side2 A18.out).mono ?_); (case side1 => repeat (first | exact (Kd.R_reads' HO286.out).2.2 | (with_reducible refine Kd.C_alloc ?_ _) | (with_reducible refine Kd.C_drewN ?_ _) | (with_reducible refine Kd.C_drew ?_))); (case side2 => exact (Kd.R_reads' HO286.out).2.1); rintro e w38 ⟨v288, rfl, ho0, hb⟩; refine ⟨_, rfl, ?_⟩; have n0_ := Aside0.mk (Kd.R_elder' (by (with_reducible repeat (first | apply Kd.R_alloc | apply Kd.R_drewN | apply Kd.R_drew)); exact HO262.out) (Kd.R_base ho0) hb); have n1_ := Aside0.mk (Kd.R_elder' (by (with_reducible repeat (first | apply Kd.R_alloc | apply Kd.R_drewN | apply Kd.R_drew)); exact HO268.out) (Kd.R_base ho0) hb); have n2_ := Aside0.mk (Kd.R_elder' (by (with_reducible repeat (first | apply Kd.R_alloc | apply Kd.R_drewN | apply Kd.R_drew)); exact HO274.out) (Kd.R_base ho0) hb); have n3_ := Aside0.mk (Kd.R_elder' (by (with_reducible repeat (first | apply Kd.R_alloc | apply Kd.R_drewN | apply Kd.R_drew)); exact HO280.out) (Kd.R_base ho0) hb); have n4_ := Aside0.mk (Kd.R_elder' (by (with_reducible repeat (first | apply Kd.R_alloc | apply Kd.R_drewN | apply Kd.R_drew)); exact HO283.out) (Kd.R_base ho0) hb); have n5_ := Aside0.mk (Kd.R_below (by (with_reducible repeat (first | apply Kd.R_alloc | apply Kd.R_drewN | apply Kd.R_drew)); exact HO286.out) hb); have n6_ := Aside0.mk (Kd.R_lower (Kd.R_new' (Kd.R_new' (Kd.R_new' (Kd.R_new' (Kd.R_new' ho0 (Kd.R_lt (by (with_reducible repeat (first | apply Kd.R_alloc | apply Kd.R_drewN | apply Kd.R_drew)); exact HO262.out))) (Kd.R_lt (by (with_reducible repeat (first | apply Kd.R_alloc | apply Kd.R_drewN | apply Kd.R_drew)); exact HO268.out))) (Kd.R_lt (by (with_reducible repeat (first | apply Kd.R_alloc | apply Kd.R_drewN | apply Kd.R_drew)); exact HO274.out))) (Kd.R_lt (by (with_reducible repeat (first | apply Kd.R_alloc | apply Kd.R_drewN | apply Kd.R_drew)); exact HO280.out))) (Kd.R_lt (by (with_reducible repeat (first | apply Kd.R_alloc | apply Kd.R_drewN | apply Kd.R_drew)); exact HO283.out))) (below_size (by repeat (first | (with_reducible first | exact HB.out | apply below_alloc | apply pw_below_drewN | apply below_drew1) | exact HB.out)))); have n7_ := Aside0.mk (below_step (by repeat (first | (with_reducible first | exact HB.out | apply below_alloc | apply pw_below_drewN | apply below_drew1) | exact HB.out)) hb); clear HO262; clear HO268; clear HO274; clear HO280; clear HO283; clear HO286; clear HB; have HO262 := n0_; have HO268 := n1_; have HO274 := n2_; have HO280 := n3_; have HO283 := n4_; have HO286 := n5_; have HO289 := n6_; have HB := n7_; clear n0_ n1_ n2_ n3_ n4_ n5_ n6_ n7_; (try clear hb); (try clear hb2); (try clear hk); (try clear hi); (try clear ho0); obtain ⟨Ao40, co40, eo40⟩ := Kd.R_slice HO289.out; subst eo40) | ((with_reducible refine gate_builtin (b := .append) (xs := #[.tmp 42, .tmp 45]) rfl ?_); at_builtin; refine Kd.R_append_rows (Kd.int .u8) (w0 := w) w.heap.size rfl (.tmp 42) (.tmp 45) 25 5 (.int .u8 0) 1 rfl Try.underlying25 info5 rfl (by decide) (by omega) v282 y281 t287 _ _ _ (fun k_ => some k_ ≠ (.slice Ao26 t260.length co26 : Value).ownBlock ∧ some k_ ≠ (.slice Ao29 t266.length co29 : Value).ownBlock ∧ some k_ ≠ (.slice Ao32 t272.length co32 : Value).ownBlock ∧ some k_ ≠ (.slice Ao35 t278.length co35 : Value).ownBlock ∧ some k_ ≠ (.slice Ao40 t287.length co40 : Value).ownBlock) (fun _ => False) rfl rfl ?aO ?aR (fun _ _ h => h) (fun _ h => h.elim) ?aF ?aB ?aS ?aL ?_; (case aR => repeat (first | exact (Kd.R_reads' HO289.out).2.2 | (with_reducible refine Kd.C_alloc ?_ _) | (with_reducible refine Kd.C_drewN ?_ _) | (with_reducible refine Kd.C_drew ?_))); (case aB => exact (by repeat (first | (with_reducible first | exact HB.out | apply below_alloc | apply pw_below_drewN | apply below_drew1) | exact HB.out))); (case aF => exact (fun k_ hk => ⟨Kd.fresh' (Kd.R_lt (by (with_reducible repeat (first | apply Kd.R_alloc | apply Kd.R_drewN | apply Kd.R_drew)); exact HO262.out)) k_ hk, Kd.fresh' (Kd.R_lt (by (with_reducible repeat (first | apply Kd.R_alloc | apply Kd.R_drewN | apply Kd.R_drew)); exact HO268.out)) k_ hk, Kd.fresh' (Kd.R_lt (by (with_reducible repeat (first | apply Kd.R_alloc | apply Kd.R_drewN | apply Kd.R_drew)); exact HO274.out)) k_ hk, Kd.fresh' (Kd.R_lt (by (with_reducible repeat (first | apply Kd.R_alloc | apply Kd.R_drewN | apply Kd.R_drew)); exact HO280.out)) k_ hk, Kd.fresh' (Kd.R_lt (by (with_reducible repeat (first | apply Kd.R_alloc | apply Kd.R_drewN | apply Kd.R_drew)); exact HO289.out)) k_ hk⟩)); (case aO => exact (by (with_reducible repeat (first | apply Kd.R_alloc | apply Kd.R_drewN | apply Kd.R_drew)); exact Kd.R_mono HO283.out (fun _ hk => ⟨hk.1.1, ⟨hk.1.2.1, ⟨hk.1.2.2.1, ⟨hk.1.2.2.2, hk.2⟩⟩⟩⟩))); (case aS => exact (below_size (by repeat (first | (with_reducible first | exact HB.out | apply below_alloc | apply pw_below_drewN | apply below_drew1) | exact HB.out)))); (case aL => have := LMc19.out; omega); intro v291 w39 ho hb hg hat; rw [← Ny290.out] at ho; have n0_ := Aside0.mk (Kd.R_after (ok := (fun k_ => some k_ ≠ (.slice Ao29 t266.length co29 : Value).ownBlock ∧ some k_ ≠ (.slice Ao32 t272.length co32 : Value).ownBlock ∧ some k_ ≠ (.slice Ao35 t278.length co35 : Value).ownBlock ∧ some k_ ≠ (.slice Ao40 t287.length co40 : Value).ownBlock)) (by (with_reducible repeat (first | apply Kd.R_alloc | apply Kd.R_drewN | apply Kd.R_drew)); exact Kd.R_mono HO262.out (fun _ hk => ⟨⟨hk.1.1.1, ⟨hk.1.1.2.1, ⟨hk.1.1.2.2, hk.2⟩⟩⟩, hk.1.2⟩)) hg hat); have n1_ := Aside0.mk (Kd.R_after (ok := (fun k_ => some k_ ≠ (.slice Ao26 t260.length co26 : Value).ownBlock ∧ some k_ ≠ (.slice Ao32 t272.length co32 : Value).ownBlock ∧ some k_ ≠ (.slice Ao35 t278.length co35 : Value).ownBlock ∧ some k_ ≠ (.slice Ao40 t287.length co40 : Value).ownBlock)) (by (with_reducible repeat (first | apply Kd.R_alloc | apply Kd.R_drewN | apply Kd.R_drew)); exact Kd.R_mono HO268.out (fun _ hk => ⟨⟨hk.1.1.1, ⟨hk.1.1.2.1, ⟨hk.1.1.2.2, hk.2⟩⟩⟩, hk.1.2⟩)) hg hat); have n2_ := Aside0.mk (Kd.R_after (ok := (fun k_ => some k_ ≠ (.slice Ao26 t260.length co26 : Value).ownBlock ∧ some k_ ≠ (.slice Ao29 t266.length co29 : Value).ownBlock ∧ some k_ ≠ (.slice Ao35 t278.length co35 : Value).ownBlock ∧ some k_ ≠ (.slice Ao40 t287.length co40 : Value).ownBlock)) (by (with_reducible repeat (first | apply Kd.R_alloc | apply Kd.R_drewN | apply Kd.R_drew)); exact Kd.R_mono HO274.out (fun _ hk => ⟨⟨hk.1.1.1, ⟨hk.1.1.2.1, ⟨hk.1.1.2.2, hk.2⟩⟩⟩, hk.1.2⟩)) hg hat); have n3_ := Aside0.mk (Kd.R_after (ok := (fun k_ => some k_ ≠ (.slice Ao26 t260.length co26 : Value).ownBlock ∧ some k_ ≠ (.slice Ao29 t266.length co29 : Value).ownBlock ∧ some k_ ≠ (.slice Ao32 t272.length co32 : Value).ownBlock ∧ some k_ ≠ (.slice Ao40 t287.length co40 : Value).ownBlock)) (by (with_reducible repeat (first | apply Kd.R_alloc | apply Kd.R_drewN | apply Kd.R_drew)); exact Kd.R_mono HO280.out (fun _ hk => ⟨⟨hk.1.1.1, ⟨hk.1.1.2.1, ⟨hk.1.1.2.2, hk.2⟩⟩⟩, hk.1.2⟩)) hg hat); have n4_ := Aside0.mk (Kd.R_over' (by (with_reducible repeat (first | apply Kd.R_alloc | apply Kd.R_drewN | apply Kd.R_drew)); exact HO286.out) (Kd.R_typed (by (with_reducible repeat (first | apply Kd.R_alloc | apply Kd.R_drewN | apply Kd.R_drew)); exact HO283.out)) (by decide) hg); have n5_ := Aside0.mk (Kd.R_after (ok := (fun k_ => some k_ ≠ (.slice Ao26 t260.length co26 : Value).ownBlock ∧ some k_ ≠ (.slice Ao29 t266.length co29 : Value).ownBlock ∧ some k_ ≠ (.slice Ao32 t272.length co32 : Value).ownBlock ∧ some k_ ≠ (.slice Ao35 t278.length co35 : Value).ownBlock)) (by (with_reducible repeat (first | apply Kd.R_alloc | apply Kd.R_drewN | apply Kd.R_drew)); exact Kd.R_mono HO289.out (fun _ hk => ⟨⟨hk.1.1.1.1.2, ⟨hk.1.1.1.2, ⟨hk.1.1.2, hk.1.2⟩⟩⟩, hk.2⟩)) hg hat); have n6_ := Aside0.mk (hb); have n7_ := Aside0.mk (ho); clear HO262; clear HO268; clear HO274; clear HO280; clear HO286; clear HO289; clear HB; clear HO283; have HO262 := n0_; have HO268 := n1_; have HO274 := n2_; have HO280 := n3_; have HO286 := n4_; have HO289 := n5_; have HB := n6_; have HO292 := n7_; clear n0_ n1_ n2_ n3_ n4_ n5_ n6_ n7_; clear ho hb hg hat; obtain ⟨Ao41, co41, eo41⟩ := Kd.R_slice HO292.out; subst eo41) | ((with_reducible refine gate_builtin (b := .append) (xs := #[.tmp 49, .tmp 50]) rfl ?_); at_builtin; refine Kd.R_append_rows (Kd.int .u8) (w0 := w) w.heap.size rfl (.tmp 49) (.tmp 50) 25 5 (.int .u8 0) 1 rfl Try.underlying25 info5 rfl (by decide) (by omega) (.slice Ao41 y290.length co41) y290 l6 _ _ _ (fun k_ => some k_ ≠ (.slice Ao26 t260.length co26 : Value).ownBlock ∧ some k_ ≠ (.slice Ao29 t266.length co29 : Value).ownBlock ∧ some k_ ≠ (.slice Ao32 t272.length co32 : Value).ownBlock ∧ some k_ ≠ (.slice Ao35 t278.length co35 : Value).ownBlock ∧ some k_ ≠ (.slice Ao40 t287.length co40 : Value).ownBlock) (fun _ => False) rfl rfl ?aO ?aR (fun _ _ h => h) (fun _ h => h.elim) ?aF ?aB ?aS ?aL ?_; (case aR => repeat (first | exact (Kd.C_below HR6.out HB.out) | (with_reducible refine Kd.C_alloc ?_ _) | (with_reducible refine Kd.C_drewN ?_ _) | (with_reducible refine Kd.C_drew ?_))); (case aB => exact (by repeat (first | (with_reducible first | exact HB.out | apply below_alloc | apply pw_below_drewN | apply below_drew1) | exact HB.out))); (case aF => exact (fun k_ hk => ⟨Kd.fresh' (Kd.R_lt (by (with_reducible repeat (first | apply Kd.R_alloc | apply Kd.R_drewN | apply Kd.R_drew)); exact HO262.out)) k_ hk, Kd.fresh' (Kd.R_lt (by (with_reducible repeat (first | apply Kd.R_alloc | apply Kd.R_drewN | apply Kd.R_drew)); exact HO268.out)) k_ hk, Kd.fresh' (Kd.R_lt (by (with_reducible repeat (first | apply Kd.R_alloc | apply Kd.R_drewN | apply Kd.R_drew)); exact HO274.out)) k_ hk, Kd.fresh' (Kd.R_lt (by (with_reducible repeat (first | apply Kd.R_alloc | apply Kd.R_drewN | apply Kd.R_drew)); exact HO280.out)) k_ hk, Kd.fresh' (Kd.R_lt (by (with_reducible repeat (first | apply Kd.R_alloc | apply Kd.R_drewN | apply Kd.R_drew)); exact HO289.out)) k_ hk⟩)); (case aO => exact (by (with_reducible repeat (first | apply Kd.R_alloc | apply Kd.R_drewN | apply Kd.R_drew)); exact HO292.out)); (case aS => exact (below_size (by repeat (first | (with_reducible first | exact HB.out | apply below_alloc | apply pw_below_drewN | apply below_drew1) | exact HB.out)))); (case aL => have := LMc20.out; omega); intro v294 w42 ho hb hg hat; rw [← Ny293.out] at ho; have n0_ := Aside0.mk (Kd.R_after (ok := (fun k_ => some k_ ≠ (.slice Ao29 t266.length co29 : Value).ownBlock ∧ some k_ ≠ (.slice Ao32 t272.length co32 : Value).ownBlock ∧ some k_ ≠ (.slice Ao35 t278.length co35 : Value).ownBlock ∧ some k_ ≠ (.slice Ao40 t287.length co40 : Value).ownBlock)) (by (with_reducible repeat (first | apply Kd.R_alloc | apply Kd.R_drewN | apply Kd.R_drew)); exact HO262.out) hg hat); have n1_ := Aside0.mk (Kd.R_after (ok := (fun k_ => some k_ ≠ (.slice Ao26 t260.length co26 : Value).ownBlock ∧ some k_ ≠ (.slice Ao32 t272.length co32 : Value).ownBlock ∧ some k_ ≠ (.slice Ao35 t278.length co35 : Value).ownBlock ∧ some k_ ≠ (.slice Ao40 t287.length co40 : Value).ownBlock)) (by (with_reducible repeat (first | apply Kd.R_alloc | apply Kd.R_drewN | apply Kd.R_drew)); exact HO268.out) hg hat); have n2_ := Aside0.mk (Kd.R_after (ok := (fun k_ => some k_ ≠ (.slice Ao26 t260.length co26 : Value).ownBlock ∧ some k_ ≠ (.slice Ao29 t266.length co29 : Value).ownBlock ∧ some k_ ≠ (.slice Ao35 t278.length co35 : Value).ownBlock ∧ some k_ ≠ (.slice Ao40 t287.length co40 : Value).ownBlock)) (by (with_reducible repeat (first | apply Kd.R_alloc | apply Kd.R_drewN | apply Kd.R_drew)); exact HO274.out) hg hat); have n3_ := Aside0.mk (Kd.R_after (ok := (fun k_ => some k_ ≠ (.slice Ao26 t260.length co26 : Value).ownBlock ∧ some k_ ≠ (.slice Ao29 t266.length co29 : Value).ownBlock ∧ some k_ ≠ (.slice Ao32 t272.length co32 : Value).ownBlock ∧ some k_ ≠ (.slice Ao40 t287.length co40 : Value).ownBlock)) (by (with_reducible repeat (first | apply Kd.R_alloc | apply Kd.R_drewN | apply Kd.R_drew)); exact HO280.out) hg hat); have n4_ := Aside0.mk (Kd.R_over' (by (with_reducible repeat (first | apply Kd.R_alloc | apply Kd.R_drewN | apply Kd.R_drew)); exact HO286.out) (Kd.R_typed (by (with_reducible repeat (first | apply Kd.R_alloc | apply Kd.R_drewN | apply Kd.R_drew)); exact HO292.out)) (by decide) hg); have n5_ := Aside0.mk (Kd.R_after (ok := (fun k_ => some k_ ≠ (.slice Ao26 t260.length co26 : Value).ownBlock ∧ some k_ ≠ (.slice Ao29 t266.length co29 : Value).ownBlock ∧ some k_ ≠ (.slice Ao32 t272.length co32 : Value).ownBlock ∧ some k_ ≠ (.slice Ao35 t278.length co35 : Value).ownBlock)) (by (with_reducible repeat (first | apply Kd.R_alloc | apply Kd.R_drewN | apply Kd.R_drew)); exact HO289.out) hg hat); have n6_ := Aside0.mk (hb); have n7_ := Aside0.mk (ho); clear HO262; clear HO268; clear HO274; clear HO280; clear HO286; clear HO289; clear HB; clear HO292; have HO262 := n0_; have HO268 := n1_; have HO274 := n2_; have HO280 := n3_; have HO286 := n4_; have HO289 := n5_; have HB := n6_; have HO295 := n7_; clear n0_ n1_ n2_ n3_ n4_ n5_ n6_ n7_; clear ho hb hg hat; obtain ⟨Ao43, co43, eo43⟩ := Kd.R_slice HO295.out; subst eo43) | ((with_reducible refine gate_callee (f := 19) rfl ?_); refine goesL_ (some 56) rfl rfl Try.func19 (by kernel_rfl) rfl #[.slice Ao43 y293.length co43, .int .i64 (l0.length : Int)] rfl (by (try simp only [List.map_toArray, List.map_cons, List.map_nil]); first | done | rfl | (simp only [List.length_drop, List.length_take]; rfl)) ?_; (with_reducible refine (wire_Uint.calls k _ _ y293 (l0.length : Int) t296 t297 t298 _ ?side1 ?side2 A21.out).mono ?_); (case side1 => repeat (first | exact (Kd.R_reads' HO295.out).2.2 | (with_reducible refine Kd.C_alloc ?_ _) | (with_reducible refine Kd.C_drewN ?_ _) | (with_reducible refine Kd.C_drew ?_))); (case side2 => exact (Kd.R_reads' HO295.out).2.1); rintro e w' ⟨rfl, ⟨nd, rfl⟩⟩; refine ⟨_, rfl, ?_⟩))
              (try simp only [Act.put, List.setIfInBounds_toArray, List.set_cons_zero, List.set_cons_succ])
              go_cut [66] (fun v66 wc => ∃ (kq : Nat) (x66_21 : Bool), v66 = .bool x66_21 ∧ Aside0 (arrearslaw4_WireBackNumbers.j0 kq a2 a3 a4 l5 y293 (y290.length : Int) t297 x66_21 = some r) ∧ Aside0 (kq ≤ k) ∧ Aside0 (Kd.R (Kd.int .u8) 5 wc w.heap.size (fun _ => True) (.slice Ao43 y293.length co43) y293) ∧ Aside0 (Below w.heap.size w wc))
              case first =>
                have H := HC22.out
                clear HC22
                by_cases c44 : t298 = true
                · subst c44
                  have H1 : (arrearslaw4_WireBackNumbers.j0 k a2 a3 a4 l5 y293 (y290.length : Int) t297 (t296 != a1)) = some r := by rw [if_pos rfl] at H; exact H
                  clear H
                  have H := H1
                  clear H1
                  have H' := Aside0.mk H
                  clear H
                  go_wp2
                  go_meet
                  case rel => exact ⟨_, ((t296 != a1)), (by first | rfl | (simp; done) | (simp [*]; done)), H', ⟨by first | omega | exact Nat.le_refl _⟩, ⟨by (with_reducible repeat (first | apply Kd.R_alloc | apply Kd.R_drewN | apply Kd.R_drew)); exact Kd.R_mono HO295.out (fun _ hk => trivial)⟩, ⟨by repeat (first | (with_reducible first | exact HB.out | apply below_alloc | apply pw_below_drewN | apply below_drew1) | exact HB.out)⟩⟩
                · replace c44 := Bool.eq_false_iff.mpr c44
                  subst c44
                  have H1 : (arrearslaw4_WireBackNumbers.j0 k a2 a3 a4 l5 y293 (y290.length : Int) t297 true) = some r := by rw [if_neg (show ¬ (false = true) by decide)] at H; exact H
                  clear H
                  have H := H1
                  clear H1
                  have H' := Aside0.mk H
                  clear H
                  go_wp2
                  go_meet
                  case rel => exact ⟨_, (true), (by first | rfl | (simp; done) | (simp [*]; done)), H', ⟨by first | omega | exact Nat.le_refl _⟩, ⟨by (with_reducible repeat (first | apply Kd.R_alloc | apply Kd.R_drewN | apply Kd.R_drew)); exact Kd.R_mono HO295.out (fun _ hk => trivial)⟩, ⟨by repeat (first | (with_reducible first | exact HB.out | apply below_alloc | apply pw_below_drewN | apply below_drew1) | exact HB.out)⟩⟩
              case rest =>
                clear HC22
                try clear c1
                try clear c2
                try clear p2
                try clear c3
                try clear c4
                try clear c5
                try clear c6
                try clear c8
                try clear c10
                try clear c11
                try clear c12
                try clear c14
                try clear c15
                try clear c16
                try clear c19
                try clear c20
                try clear c25
                try clear c29
                try clear c30
                try clear c31
                try clear c44
                obtain ⟨kq, x66_21, rfl, HA, HJ21, HO_15, HB⟩ := hcut
                cases kq with
                | zero => exact absurd HA.out (by simp [arrearslaw4_WireBackNumbers.j0])
                | succ kj21 =>
                  have H := HA.out
                  clear HA
                  simp only [arrearslaw4_WireBackNumbers.j0] at H
                  by_cases c45 : x66_21 = true
                  · subst c45
                    have H1 : (none) = some r := by rw [if_pos rfl] at H; exact H
                    clear H
                    have H := H1
                    clear H1
                    exact absurd H (by simp)
                  · replace c45 := Bool.eq_false_iff.mpr c45
                    subst c45
                    have H1 : ((wire_Int.f kj21 y293 t297).bind fun bt299 => (if bt299.2.2 = true then (arrearslaw4_WireBackNumbers.j1 kj21 a3 a4 l5 y293 (y290.length : Int) bt299.2.1 (bt299.1 != a2)) else (arrearslaw4_WireBackNumbers.j1 kj21 a3 a4 l5 y293 (y290.length : Int) bt299.2.1 true))) = some r := by rw [if_neg (show ¬ (false = true) by decide)] at H; exact H
                    clear H
                    have H := H1
                    clear H1
                    replace H := Option.bind_eq_some_iff.mp H
                    obtain ⟨⟨t299, t300, t301⟩, A460, H⟩ := H
                    replace H : (if t301 = true then (arrearslaw4_WireBackNumbers.j1 kj21 a3 a4 l5 y293 (y290.length : Int) t300 (t299 != a2)) else (arrearslaw4_WireBackNumbers.j1 kj21 a3 a4 l5 y293 (y290.length : Int) t300 true)) = some r := H
                    have A46 := Aside0.mk A460
                    clear A460
                    have HC47 := Aside0.mk H
                    clear H
                    go_upto_region 13 with (first | ((with_reducible refine gate_callee (f := 21) rfl ?_); refine goesL_ (some 70) rfl rfl Try.func21 (by kernel_rfl) rfl #[.slice Ao43 y293.length co43, .int .i64 t297] rfl (by (try simp only [List.map_toArray, List.map_cons, List.map_nil]); first | done | rfl | (simp only [List.length_drop, List.length_take]; rfl)) ?_; (with_reducible refine (wire_Int.calls kj21 _ _ y293 t297 t299 t300 t301 _ ?side1 ?side2 A46.out).mono ?_); (case side1 => repeat (first | exact (Kd.R_reads' HO_15.out).2.2 | (with_reducible refine Kd.C_alloc ?_ _) | (with_reducible refine Kd.C_drewN ?_ _) | (with_reducible refine Kd.C_drew ?_))); (case side2 => exact (Kd.R_reads' HO_15.out).2.1); rintro e w' ⟨rfl, ⟨nd, rfl⟩⟩; refine ⟨_, rfl, ?_⟩))
                    (try simp only [Act.put, List.setIfInBounds_toArray, List.set_cons_zero, List.set_cons_succ])
                    go_cut [80] (fun v80 wc => ∃ (kq : Nat) (x80_46 : Bool), v80 = .bool x80_46 ∧ Aside0 (arrearslaw4_WireBackNumbers.j1 kq a3 a4 l5 y293 (y290.length : Int) t300 x80_46 = some r) ∧ Aside0 (kq ≤ kj21) ∧ Aside0 (Kd.R (Kd.int .u8) 5 wc w.heap.size (fun _ => True) (.slice Ao43 y293.length co43) y293) ∧ Aside0 (Below w.heap.size w wc))
                    case first =>
                      have H := HC47.out
                      clear HC47
                      by_cases c48 : t301 = true
                      · subst c48
                        have H1 : (arrearslaw4_WireBackNumbers.j1 kj21 a3 a4 l5 y293 (y290.length : Int) t300 (t299 != a2)) = some r := by rw [if_pos rfl] at H; exact H
                        clear H
                        have H := H1
                        clear H1
                        have H' := Aside0.mk H
                        clear H
                        go_wp2
                        go_meet
                        case rel => exact ⟨_, ((t299 != a2)), (by first | rfl | (simp; done) | (simp [*]; done)), H', ⟨by have := HJ21.out; first | omega | exact Nat.le_refl _⟩, ⟨by (with_reducible repeat (first | apply Kd.R_alloc | apply Kd.R_drewN | apply Kd.R_drew)); exact HO_15.out⟩, ⟨by repeat (first | (with_reducible first | exact HB.out | apply below_alloc | apply pw_below_drewN | apply below_drew1) | exact HB.out)⟩⟩
                      · replace c48 := Bool.eq_false_iff.mpr c48
                        subst c48
                        have H1 : (arrearslaw4_WireBackNumbers.j1 kj21 a3 a4 l5 y293 (y290.length : Int) t300 true) = some r := by rw [if_neg (show ¬ (false = true) by decide)] at H; exact H
                        clear H
                        have H := H1
                        clear H1
                        have H' := Aside0.mk H
                        clear H
                        go_wp2
                        go_meet
                        case rel => exact ⟨_, (true), (by first | rfl | (simp; done) | (simp [*]; done)), H', ⟨by have := HJ21.out; first | omega | exact Nat.le_refl _⟩, ⟨by (with_reducible repeat (first | apply Kd.R_alloc | apply Kd.R_drewN | apply Kd.R_drew)); exact HO_15.out⟩, ⟨by repeat (first | (with_reducible first | exact HB.out | apply below_alloc | apply pw_below_drewN | apply below_drew1) | exact HB.out)⟩⟩
                    case rest =>
                      clear HC47
                      try clear c1
                      try clear c2
                      try clear p2
                      try clear c3
                      try clear c4
                      try clear c5
                      try clear c6
                      try clear c8
                      try clear c10
                      try clear c11
                      try clear c12
                      try clear c14
                      try clear c15
                      try clear c16
                      try clear c19
                      try clear c20
                      try clear c21
                      try clear c25
                      try clear c29
                      try clear c30
                      try clear c31
                      try clear c44
                      try clear c45
                      try clear c48
                      try clear p2
                      obtain ⟨kq, x80_46, rfl, HA, HJ46, HO_15, HB⟩ := hcut
                      cases kq with
                      | zero => exact absurd HA.out (by simp [arrearslaw4_WireBackNumbers.j1])
                      | succ kj46 =>
                        have H := HA.out
                        clear HA
                        simp only [arrearslaw4_WireBackNumbers.j1] at H
                        by_cases c49 : x80_46 = true
                        · subst c49
                          have H1 : (none) = some r := by rw [if_pos rfl] at H; exact H
                          clear H
                          have H := H1
                          clear H1
                          exact absurd H (by simp)
                        · replace c49 := Bool.eq_false_iff.mpr c49
                          subst c49
                          have H1 : ((wire_Bool.f y293 t300).bind fun bt302 => (if bt302.2.2 = true then (arrearslaw4_WireBackNumbers.j2 kj46 a4 l5 y293 (y290.length : Int) bt302.2.1 (bt302.1 != a3)) else (arrearslaw4_WireBackNumbers.j2 kj46 a4 l5 y293 (y290.length : Int) bt302.2.1 true))) = some r := by rw [if_neg (show ¬ (false = true) by decide)] at H; exact H
                          clear H
                          have H := H1
                          clear H1
                          replace H := Option.bind_eq_some_iff.mp H
                          obtain ⟨⟨t302, t303, t304⟩, A500, H⟩ := H
                          replace H : (if t304 = true then (arrearslaw4_WireBackNumbers.j2 kj46 a4 l5 y293 (y290.length : Int) t303 (t302 != a3)) else (arrearslaw4_WireBackNumbers.j2 kj46 a4 l5 y293 (y290.length : Int) t303 true)) = some r := H
                          have A50 := Aside0.mk A500
                          clear A500
                          have HC51 := Aside0.mk H
                          clear H
                          go_upto_region 16 with (first | ((with_reducible refine gate_callee (f := 32) rfl ?_); refine goesL_ (some 84) rfl rfl Try.func32 (by kernel_rfl) rfl #[.slice Ao43 y293.length co43, .int .i64 t300] rfl (by (try simp only [List.map_toArray, List.map_cons, List.map_nil]); first | done | rfl | (simp only [List.length_drop, List.length_take]; rfl)) ?_; (with_reducible refine (wire_Bool.calls _ _ y293 t300 t302 t303 t304 _ ?side1 ?side2 A50.out).mono ?_); (case side1 => repeat (first | exact (Kd.R_reads' HO_15.out).2.2 | (with_reducible refine Kd.C_alloc ?_ _) | (with_reducible refine Kd.C_drewN ?_ _) | (with_reducible refine Kd.C_drew ?_))); (case side2 => exact (Kd.R_reads' HO_15.out).2.1); rintro e w' ⟨rfl, ⟨nd, rfl⟩⟩; refine ⟨_, rfl, ?_⟩))
                          (try simp only [Act.put, List.setIfInBounds_toArray, List.set_cons_zero, List.set_cons_succ])
                          go_cut [94] (fun v94 wc => ∃ (kq : Nat) (x94_50 : Bool), v94 = .bool x94_50 ∧ Aside0 (arrearslaw4_WireBackNumbers.j2 kq a4 l5 y293 (y290.length : Int) t303 x94_50 = some r) ∧ Aside0 (kq ≤ kj46) ∧ Aside0 (Kd.R (Kd.int .u8) 5 wc w.heap.size (fun _ => True) (.slice Ao43 y293.length co43) y293) ∧ Aside0 (Below w.heap.size w wc))
                          case first =>
                            have H := HC51.out
                            clear HC51
                            by_cases c52 : t304 = true
                            · subst c52
                              have H1 : (arrearslaw4_WireBackNumbers.j2 kj46 a4 l5 y293 (y290.length : Int) t303 (t302 != a3)) = some r := by rw [if_pos rfl] at H; exact H
                              clear H
                              have H := H1
                              clear H1
                              have H' := Aside0.mk H
                              clear H
                              go_wp2
                              go_meet
                              case rel => exact ⟨_, ((t302 != a3)), (by first | rfl | (simp; done) | (simp [*]; done)), H', ⟨by have := HJ21.out; have := HJ46.out; first | omega | exact Nat.le_refl _⟩, ⟨by (with_reducible repeat (first | apply Kd.R_alloc | apply Kd.R_drewN | apply Kd.R_drew)); exact HO_15.out⟩, ⟨by repeat (first | (with_reducible first | exact HB.out | apply below_alloc | apply pw_below_drewN | apply below_drew1) | exact HB.out)⟩⟩
                            · replace c52 := Bool.eq_false_iff.mpr c52
                              subst c52
                              have H1 : (arrearslaw4_WireBackNumbers.j2 kj46 a4 l5 y293 (y290.length : Int) t303 true) = some r := by rw [if_neg (show ¬ (false = true) by decide)] at H; exact H
                              clear H
                              have H := H1
                              clear H1
                              have H' := Aside0.mk H
                              clear H
                              go_wp2
                              go_meet
                              case rel => exact ⟨_, (true), (by first | rfl | (simp; done) | (simp [*]; done)), H', ⟨by have := HJ21.out; have := HJ46.out; first | omega | exact Nat.le_refl _⟩, ⟨by (with_reducible repeat (first | apply Kd.R_alloc | apply Kd.R_drewN | apply Kd.R_drew)); exact HO_15.out⟩, ⟨by repeat (first | (with_reducible first | exact HB.out | apply below_alloc | apply pw_below_drewN | apply below_drew1) | exact HB.out)⟩⟩
                          case rest =>
                            clear HC51
                            try clear c1
                            try clear c2
                            try clear p2
                            try clear c3
                            try clear c4
                            try clear c5
                            try clear c6
                            try clear c8
                            try clear c10
                            try clear c11
                            try clear c12
                            try clear c14
                            try clear c15
                            try clear c16
                            try clear c19
                            try clear c20
                            try clear c21
                            try clear c25
                            try clear c29
                            try clear c30
                            try clear c31
                            try clear c32
                            try clear c44
                            try clear c45
                            try clear c48
                            try clear c49
                            try clear c52
                            try clear p2
                            obtain ⟨kq, x94_50, rfl, HA, HJ50, HO_15, HB⟩ := hcut
                            cases kq with
                            | zero => exact absurd HA.out (by simp [arrearslaw4_WireBackNumbers.j2])
                            | succ kj50 =>
                              have H := HA.out
                              clear HA
                              simp only [arrearslaw4_WireBackNumbers.j2] at H
                              by_cases c53 : x94_50 = true
                              · subst c53
                                have H1 : (none) = some r := by rw [if_pos rfl] at H; exact H
                                clear H
                                have H := H1
                                clear H1
                                exact absurd H (by simp)
                              · replace c53 := Bool.eq_false_iff.mpr c53
                                subst c53
                                have H1 : ((wire_Text.f kj50 y293 t303).bind fun bt305 => (if bt305.2.2 = true then (arrearslaw4_WireBackNumbers.j3 kj50 l5 y293 (y290.length : Int) bt305.2.1 (bt305.1.toList != a4.toList)) else (arrearslaw4_WireBackNumbers.j3 kj50 l5 y293 (y290.length : Int) bt305.2.1 true))) = some r := by rw [if_neg (show ¬ (false = true) by decide)] at H; exact H
                                clear H
                                have H := H1
                                clear H1
                                replace H := Option.bind_eq_some_iff.mp H
                                obtain ⟨⟨t305, t306, t307⟩, A540, H⟩ := H
                                replace H : (if t307 = true then (arrearslaw4_WireBackNumbers.j3 kj50 l5 y293 (y290.length : Int) t306 (t305.toList != a4.toList)) else (arrearslaw4_WireBackNumbers.j3 kj50 l5 y293 (y290.length : Int) t306 true)) = some r := H
                                have A54 := Aside0.mk A540
                                clear A540
                                have HC55 := Aside0.mk H
                                clear H
                                go_upto_region 19 with (first | ((with_reducible refine gate_callee (f := 33) rfl ?_); refine goesL_ (some 98) rfl rfl Try.func33 (by kernel_rfl) rfl #[.slice Ao43 y293.length co43, .int .i64 t303] rfl (by (try simp only [List.map_toArray, List.map_cons, List.map_nil]); first | done | rfl | (simp only [List.length_drop, List.length_take]; rfl)) ?_; (with_reducible refine (wire_Text.calls kj50 _ _ y293 t303 t305 t306 t307 _ ?side1 ?side2 A54.out).mono ?_); (case side1 => repeat (first | exact (Kd.R_reads' HO_15.out).2.2 | (with_reducible refine Kd.C_alloc ?_ _) | (with_reducible refine Kd.C_drewN ?_ _) | (with_reducible refine Kd.C_drew ?_))); (case side2 => exact (Kd.R_reads' HO_15.out).2.1); rintro e w' ⟨rfl, ⟨nd, rfl⟩⟩; refine ⟨_, rfl, ?_⟩))
                                (try simp only [Act.put, List.setIfInBounds_toArray, List.set_cons_zero, List.set_cons_succ])
                                go_cut [108] (fun v108 wc => ∃ (kq : Nat) (x108_54 : Bool), v108 = .bool x108_54 ∧ Aside0 (arrearslaw4_WireBackNumbers.j3 kq l5 y293 (y290.length : Int) t306 x108_54 = some r) ∧ Aside0 (kq ≤ kj50) ∧ Aside0 (Kd.R (Kd.int .u8) 5 wc w.heap.size (fun _ => True) (.slice Ao43 y293.length co43) y293) ∧ Aside0 (Below w.heap.size w wc))
                                case first =>
                                  have H := HC55.out
                                  clear HC55
                                  by_cases c56 : t307 = true
                                  · subst c56
                                    have H1 : (arrearslaw4_WireBackNumbers.j3 kj50 l5 y293 (y290.length : Int) t306 (t305.toList != a4.toList)) = some r := by rw [if_pos rfl] at H; exact H
                                    clear H
                                    have H := H1
                                    clear H1
                                    have H' := Aside0.mk H
                                    clear H
                                    go_wp2
                                    go_meet
                                    case rel => exact ⟨_, ((t305.toList != a4.toList)), (by first | rfl | (simp; done) | (simp [*]; done)), H', ⟨by have := HJ21.out; have := HJ46.out; have := HJ50.out; first | omega | exact Nat.le_refl _⟩, ⟨by (with_reducible repeat (first | apply Kd.R_alloc | apply Kd.R_drewN | apply Kd.R_drew)); exact HO_15.out⟩, ⟨by repeat (first | (with_reducible first | exact HB.out | apply below_alloc | apply pw_below_drewN | apply below_drew1) | exact HB.out)⟩⟩
                                  · replace c56 := Bool.eq_false_iff.mpr c56
                                    subst c56
                                    have H1 : (arrearslaw4_WireBackNumbers.j3 kj50 l5 y293 (y290.length : Int) t306 true) = some r := by rw [if_neg (show ¬ (false = true) by decide)] at H; exact H
                                    clear H
                                    have H := H1
                                    clear H1
                                    have H' := Aside0.mk H
                                    clear H
                                    go_wp2
                                    go_meet
                                    case rel => exact ⟨_, (true), (by first | rfl | (simp; done) | (simp [*]; done)), H', ⟨by have := HJ21.out; have := HJ46.out; have := HJ50.out; first | omega | exact Nat.le_refl _⟩, ⟨by (with_reducible repeat (first | apply Kd.R_alloc | apply Kd.R_drewN | apply Kd.R_drew)); exact HO_15.out⟩, ⟨by repeat (first | (with_reducible first | exact HB.out | apply below_alloc | apply pw_below_drewN | apply below_drew1) | exact HB.out)⟩⟩
                                case rest =>
                                  clear HC55
                                  try clear c1
                                  try clear c2
                                  try clear p2
                                  try clear c3
                                  try clear c4
                                  try clear c5
                                  try clear c6
                                  try clear c8
                                  try clear c10
                                  try clear c11
                                  try clear c12
                                  try clear c14
                                  try clear c15
                                  try clear c16
                                  try clear c19
                                  try clear c20
                                  try clear c21
                                  try clear c25
                                  try clear c29
                                  try clear c30
                                  try clear c31
                                  try clear c32
                                  try clear c33
                                  try clear c44
                                  try clear c45
                                  try clear c48
                                  try clear c49
                                  try clear c52
                                  try clear c53
                                  try clear c56
                                  try clear p2
                                  obtain ⟨kq, x108_54, rfl, HA, HJ54, HO_15, HB⟩ := hcut
                                  cases kq with
                                  | zero => exact absurd HA.out (by simp [arrearslaw4_WireBackNumbers.j3])
                                  | succ kj54 =>
                                    have H := HA.out
                                    clear HA
                                    simp only [arrearslaw4_WireBackNumbers.j3] at H
                                    by_cases c57 : x108_54 = true
                                    · subst c57
                                      have H1 : (none) = some r := by rw [if_pos rfl] at H; exact H
                                      clear H
                                      have H := H1
                                      clear H1
                                      exact absurd H (by simp)
                                    · replace c57 := Bool.eq_false_iff.mpr c57
                                      subst c57
                                      have H1 : ((wire_Ints.f kj54 y293 t306).bind fun bt308 => (if bt308.2.2 = true then (if bt308.2.1 = (y290.length : Int) then ((arrearslaw4_sameNums.f kj54 bt308.1 l5).bind fun t313 => (some t313)) else (none)) else (none))) = some r := by rw [if_neg (show ¬ (false = true) by decide)] at H; exact H
                                      clear H
                                      have H := H1
                                      clear H1
                                      replace H := Option.bind_eq_some_iff.mp H
                                      obtain ⟨⟨t308, t309, t310⟩, A580, H⟩ := H
                                      replace H : (if t310 = true then (if t309 = (y290.length : Int) then ((arrearslaw4_sameNums.f kj54 t308 l5).bind fun t313 => (some t313)) else (none)) else (none)) = some r := H
                                      have A58 := Aside0.mk A580
                                      clear A580
                                      by_cases c59 : t310 = true
                                      · subst c59
                                        have H1 : (if t309 = (y290.length : Int) then ((arrearslaw4_sameNums.f kj54 t308 l5).bind fun t313 => (some t313)) else (none)) = some r := by rw [if_pos rfl] at H; exact H
                                        clear H
                                        have H := H1
                                        clear H1
                                        by_cases c60 : t309 = (y290.length : Int)
                                        · rw [if_pos c60] at H
                                          have c60b0 : (t309 == (y290.length : Int)) = true := beq_iff_eq.mpr c60
                                          have c60b1 : (t309 != (y290.length : Int)) = false := bne_eq_false_iff_eq.mpr c60
                                          clear c60
                                          replace H := Option.bind_eq_some_iff.mp H
                                          obtain ⟨t313, A610, H⟩ := H
                                          replace H : (some t313) = some r := H
                                          have A61 := Aside0.mk A610
                                          clear A610
                                          obtain rfl := Option.some.inj H
                                          go_wp2_with (first | ((with_reducible refine gate_callee (f := 34) rfl ?_); refine goesL_ (some 112) rfl rfl Try.func34 (by kernel_rfl) rfl #[.slice Ao43 y293.length co43, .int .i64 t306] rfl (by (try simp only [List.map_toArray, List.map_cons, List.map_nil]); first | done | rfl | (simp only [List.length_drop, List.length_take]; rfl)) ?_; (with_reducible refine (wire_Ints.calls kj54 _ _ y293 t306 t308 t309 true _ ?side1 ?side2 A58.out).mono ?_); (case side1 => repeat (first | exact (Kd.R_reads' HO_15.out).2.2 | (with_reducible refine Kd.C_alloc ?_ _) | (with_reducible refine Kd.C_drewN ?_ _) | (with_reducible refine Kd.C_drew ?_))); (case side2 => exact (Kd.R_reads' HO_15.out).2.1); rintro e w62 ⟨v311, rfl, ho0, hb⟩; refine ⟨_, rfl, ?_⟩; have n0_ := Aside0.mk (Kd.R_below (by (with_reducible repeat (first | apply Kd.R_alloc | apply Kd.R_drewN | apply Kd.R_drew)); exact HO_15.out) hb); have n1_ := Aside0.mk (Kd.R_lower ho0 (below_size (by repeat (first | (with_reducible first | exact HB.out | apply below_alloc | apply pw_below_drewN | apply below_drew1) | exact HB.out)))); have n2_ := Aside0.mk (below_step (by repeat (first | (with_reducible first | exact HB.out | apply below_alloc | apply pw_below_drewN | apply below_drew1) | exact HB.out)) hb); clear HO_15; clear HB; have HO_15 := n0_; have HO312 := n1_; have HB := n2_; clear n0_ n1_ n2_; (try clear hb); (try clear hb2); (try clear hk); (try clear hi); (try clear ho0); obtain ⟨Ao63, co63, eo63⟩ := Kd.R_slice HO312.out; subst eo63) | (go_at_call 13; (with_reducible refine (arrearslaw4_sameNums.calls kj54 _ _ t308 _ _ l5 t313 _ ?side1 ?side2 ?side3 ?side4 A61.out).mono ?_); (case side1 => repeat (first | exact (Kd.R_reads' HO312.out).2.2 | (with_reducible refine Kd.C_alloc ?_ _) | (with_reducible refine Kd.C_drewN ?_ _) | (with_reducible refine Kd.C_drew ?_))); (case side2 => exact (Kd.R_reads' HO312.out).2.1); (case side3 => repeat (first | exact (Kd.C_below HR5.out HB.out) | (with_reducible refine Kd.C_alloc ?_ _) | (with_reducible refine Kd.C_drewN ?_ _) | (with_reducible refine Kd.C_drew ?_))); (case side4 => exact HC5.out); rintro e w' ⟨rfl, ⟨nd, rfl⟩⟩))
                                          go_ret
                                          exact ⟨by first | rfl | (simp [errW_none, errW_some] <;> rfl) | (simp [*, errW_none, errW_some] <;> rfl), by repeat (first | (with_reducible first | exact HB.out | apply below_alloc | apply pw_below_drewN | apply below_drew1) | exact HB.out)⟩
                                        · rw [if_neg c60] at H
                                          exact absurd H (by simp)
                                      · replace c59 := Bool.eq_false_iff.mpr c59
                                        subst c59
                                        have H1 : (none) = some r := by rw [if_neg (show ¬ (false = true) by decide)] at H; exact H
                                        clear H
                                        have H := H1
                                        clear H1
                                        exact absurd H (by simp)
            · rw [if_neg c20] at H
              exact absurd H (by simp)
          · rw [if_neg c19] at H
            exact absurd H (by simp)
        · rw [if_neg c16] at H
          exact absurd H (by simp)
      · rw [if_neg c14] at H
        exact absurd H (by simp)
    · rw [if_neg c12] at H
      exact absurd H (by simp)
  · rw [if_neg c10] at H
    exact absurd H (by simp)

end Go.Proofs.Ytebjppnggjnghaa.H
