-- Written by stubprint.py (wip/) of this work, over the kit's print.py; parts by hand.
import Derived.Test.YtmppfpdaglkhkaaDoorLx0
import Derived.Test.YtmppfpdaglkhkaaDoorLx2
import Derived.Test.YtmppfpdaglkhkaaDoorLx3
import Derived.Test.YtmppfpdaglkhkaaDoorLx4
namespace Go.Proofs.YtmppfpdaglkhkaaDoor.L
open Go.RowKit Go.Proofs.YtmppfpdaglkhkaaDoorW.PrintWords Go.Proofs.YtmppfpdaglkhkaaDoorW.PrintLast Go.Proofs.YtmppfpdaglkhkaaDoorW.PrintMore
attribute [local go_sem] max2_int min2_int max_two min_two max_three min_three max_four min_four   -- for this text's walks alone
set_option linter.unusedVariables false
set_option linter.unusedSimpArgs false

/-! ### arrearslaw8_LedgerBalanced: function 10 -/
mutual
def arrearslaw8_LedgerBalanced.l0 : Nat → List (List (S43)) → Int → Int → Int → Int → Int → Int → Int → Int → Int → Int → Int → Int → Int → Option (Bool)
 | 0, _, _, _, _, _, _, _, _, _, _, _, _, _, _ => none
 | k + 1, x0, x4, x155000, x155001, x155002, x155003, x155004, x155005, x155006, x155007, x155008, x155009, x155010, x155011 => if x4 < (x0.length : Int) then (if 0 ≤ x4 then (if (Int.tmod x4 3) = 2 then (if 0 ≤ (wrap64 (x4 - 1)) then (if (wrap64 (x4 - 1)) < (x0.length : Int) then ((ledger_Reverse.f k (rd_L6 x0 (wrap64 (x4 - 1)))).bind fun t156 => ((ledger_Post.f x155000 x155001 x155002 x155003 x155004 x155005 x155006 x155007 x155008 x155009 x155010 x155011 t156).bind fun bt159 => (if bt159.2.2.2.2.2.2.2.2.2.2.2.2 = 0 then (arrearslaw8_LedgerBalanced.j1 k x0 x4 false bt159.1 bt159.2.1 bt159.2.2.1 bt159.2.2.2.1 bt159.2.2.2.2.1 bt159.2.2.2.2.2.1 bt159.2.2.2.2.2.2.1 bt159.2.2.2.2.2.2.2.1 bt159.2.2.2.2.2.2.2.2.1 bt159.2.2.2.2.2.2.2.2.2.1 bt159.2.2.2.2.2.2.2.2.2.2.1 bt159.2.2.2.2.2.2.2.2.2.2.2.1) else ((arrearslaw8_same.f k x155000 x155001 x155002 x155003 x155004 x155005 x155006 x155007 x155008 x155009 x155010 x155011 bt159.1 bt159.2.1 bt159.2.2.1 bt159.2.2.2.1 bt159.2.2.2.2.1 bt159.2.2.2.2.2.1 bt159.2.2.2.2.2.2.1 bt159.2.2.2.2.2.2.2.1 bt159.2.2.2.2.2.2.2.2.1 bt159.2.2.2.2.2.2.2.2.2.1 bt159.2.2.2.2.2.2.2.2.2.2.1 bt159.2.2.2.2.2.2.2.2.2.2.2.1).bind fun t172 => (arrearslaw8_LedgerBalanced.j1 k x0 x4 (!t172) bt159.1 bt159.2.1 bt159.2.2.1 bt159.2.2.2.1 bt159.2.2.2.2.1 bt159.2.2.2.2.2.1 bt159.2.2.2.2.2.2.1 bt159.2.2.2.2.2.2.2.1 bt159.2.2.2.2.2.2.2.2.1 bt159.2.2.2.2.2.2.2.2.2.1 bt159.2.2.2.2.2.2.2.2.2.2.1 bt159.2.2.2.2.2.2.2.2.2.2.2.1))))) else (none)) else (none)) else ((ledger_Post.f x155000 x155001 x155002 x155003 x155004 x155005 x155006 x155007 x155008 x155009 x155010 x155011 (rd_L6 x0 x4)).bind fun bt181 => (if bt181.2.2.2.2.2.2.2.2.2.2.2.2 = 0 then (arrearslaw8_LedgerBalanced.j3 k x0 x4 false bt181.1 bt181.2.1 bt181.2.2.1 bt181.2.2.2.1 bt181.2.2.2.2.1 bt181.2.2.2.2.2.1 bt181.2.2.2.2.2.2.1 bt181.2.2.2.2.2.2.2.1 bt181.2.2.2.2.2.2.2.2.1 bt181.2.2.2.2.2.2.2.2.2.1 bt181.2.2.2.2.2.2.2.2.2.2.1 bt181.2.2.2.2.2.2.2.2.2.2.2.1) else ((arrearslaw8_same.f k x155000 x155001 x155002 x155003 x155004 x155005 x155006 x155007 x155008 x155009 x155010 x155011 bt181.1 bt181.2.1 bt181.2.2.1 bt181.2.2.2.1 bt181.2.2.2.2.1 bt181.2.2.2.2.2.1 bt181.2.2.2.2.2.2.1 bt181.2.2.2.2.2.2.2.1 bt181.2.2.2.2.2.2.2.2.1 bt181.2.2.2.2.2.2.2.2.2.1 bt181.2.2.2.2.2.2.2.2.2.2.1 bt181.2.2.2.2.2.2.2.2.2.2.2.1).bind fun t194 => (arrearslaw8_LedgerBalanced.j3 k x0 x4 (!t194) bt181.1 bt181.2.1 bt181.2.2.1 bt181.2.2.2.1 bt181.2.2.2.2.1 bt181.2.2.2.2.2.1 bt181.2.2.2.2.2.2.1 bt181.2.2.2.2.2.2.2.1 bt181.2.2.2.2.2.2.2.2.1 bt181.2.2.2.2.2.2.2.2.2.1 bt181.2.2.2.2.2.2.2.2.2.2.1 bt181.2.2.2.2.2.2.2.2.2.2.2.1))))) else (none)) else (some true)
def arrearslaw8_LedgerBalanced.j1 : Nat → List (List (S43)) → Int → Bool → Int → Int → Int → Int → Int → Int → Int → Int → Int → Int → Int → Int → Option (Bool)
 | 0, _, _, _, _, _, _, _, _, _, _, _, _, _, _, _ => none
 | k + 1, x0, x4, x47, x174000, x174001, x174002, x174003, x174004, x174005, x174006, x174007, x174008, x174009, x174010, x174011 => if x47 = true then (none) else (arrearslaw8_LedgerBalanced.l1 k x0 x4 0 x174000 x174001 x174002 x174003 x174004 x174005 x174006 x174007 x174008 x174009 x174010 x174011 0 0)
def arrearslaw8_LedgerBalanced.l1 : Nat → List (List (S43)) → Int → Int → Int → Int → Int → Int → Int → Int → Int → Int → Int → Int → Int → Int → Int → Int → Option (Bool)
 | 0, _, _, _, _, _, _, _, _, _, _, _, _, _, _, _, _, _ => none
 | k + 1, x0, x4, x9, x155000, x155001, x155002, x155003, x155004, x155005, x155006, x155007, x155008, x155009, x155010, x155011, x176000, x176001 => if x9 < 12 then (if 0 ≤ x9 then ((arrearslaw8_plus.f x176000 x176001 (selI [x155000, x155001, x155002, x155003, x155004, x155005, x155006, x155007, x155008, x155009, x155010, x155011] x9)).bind fun bt174 => (arrearslaw8_LedgerBalanced.l1 k x0 x4 (wrap64 (x9 + 1)) x155000 x155001 x155002 x155003 x155004 x155005 x155006 x155007 x155008 x155009 x155010 x155011 bt174.1 bt174.2)) else (none)) else ((ledger_Trial.f k x155000 x155001 x155002 x155003 x155004 x155005 x155006 x155007 x155008 x155009 x155010 x155011).bind fun bt176 => ((arrearslaw8_nothing.f x176000 x176001).bind fun t179 => (if t179 = true then ((arrearslaw8_ownSide.f k x155000 x155001 x155002 x155003 x155004 x155005 x155006 x155007 x155008 x155009 x155010 x155011).bind fun t180 => (if t180 = true then (if bt176.2.2 = true then (if bt176.1 = bt176.2.1 then (arrearslaw8_LedgerBalanced.l0 k x0 (wrap64 (x4 + 1)) x155000 x155001 x155002 x155003 x155004 x155005 x155006 x155007 x155008 x155009 x155010 x155011) else (none)) else (if bt176.1 = 0 then (if bt176.2.1 = 0 then (arrearslaw8_LedgerBalanced.l0 k x0 (wrap64 (x4 + 1)) x155000 x155001 x155002 x155003 x155004 x155005 x155006 x155007 x155008 x155009 x155010 x155011) else (none)) else (none))) else (none))) else (none))))
def arrearslaw8_LedgerBalanced.j3 : Nat → List (List (S43)) → Int → Bool → Int → Int → Int → Int → Int → Int → Int → Int → Int → Int → Int → Int → Option (Bool)
 | 0, _, _, _, _, _, _, _, _, _, _, _, _, _, _, _ => none
 | k + 1, x0, x4, x47, x174000, x174001, x174002, x174003, x174004, x174005, x174006, x174007, x174008, x174009, x174010, x174011 => if x47 = true then (none) else (arrearslaw8_LedgerBalanced.l1 k x0 x4 0 x174000 x174001 x174002 x174003 x174004 x174005 x174006 x174007 x174008 x174009 x174010 x174011 0 0)
end
def arrearslaw8_LedgerBalanced.f (k : Nat) (l0 : List (List (S43))) : Option (Bool) := (arrearslaw8_posts.f).bind fun t153 => (if t153 = true then (arrearslaw8_LedgerBalanced.l0 k l0 0 0 0 0 0 0 0 0 0 0 0 0 0) else (none))
theorem arrearslaw8_LedgerBalanced.mono_l : ∀ k, (∀ y0 y1 y2 y3 y4 y5 y6 y7 y8 y9 y10 y11 y12 y13, LeO (arrearslaw8_LedgerBalanced.l0 k y0 y1 y2 y3 y4 y5 y6 y7 y8 y9 y10 y11 y12 y13) (arrearslaw8_LedgerBalanced.l0 (k + 1) y0 y1 y2 y3 y4 y5 y6 y7 y8 y9 y10 y11 y12 y13)) ∧ (∀ y0 y1 y2 y3 y4 y5 y6 y7 y8 y9 y10 y11 y12 y13 y14, LeO (arrearslaw8_LedgerBalanced.j1 k y0 y1 y2 y3 y4 y5 y6 y7 y8 y9 y10 y11 y12 y13 y14) (arrearslaw8_LedgerBalanced.j1 (k + 1) y0 y1 y2 y3 y4 y5 y6 y7 y8 y9 y10 y11 y12 y13 y14)) ∧ (∀ y0 y1 y2 y3 y4 y5 y6 y7 y8 y9 y10 y11 y12 y13 y14 y15 y16, LeO (arrearslaw8_LedgerBalanced.l1 k y0 y1 y2 y3 y4 y5 y6 y7 y8 y9 y10 y11 y12 y13 y14 y15 y16) (arrearslaw8_LedgerBalanced.l1 (k + 1) y0 y1 y2 y3 y4 y5 y6 y7 y8 y9 y10 y11 y12 y13 y14 y15 y16)) ∧ (∀ y0 y1 y2 y3 y4 y5 y6 y7 y8 y9 y10 y11 y12 y13 y14, LeO (arrearslaw8_LedgerBalanced.j3 k y0 y1 y2 y3 y4 y5 y6 y7 y8 y9 y10 y11 y12 y13 y14) (arrearslaw8_LedgerBalanced.j3 (k + 1) y0 y1 y2 y3 y4 y5 y6 y7 y8 y9 y10 y11 y12 y13 y14))
 | 0 => ⟨fun _ _ _ _ _ _ _ _ _ _ _ _ _ _ r h => by simp [arrearslaw8_LedgerBalanced.l0] at h, fun _ _ _ _ _ _ _ _ _ _ _ _ _ _ _ r h => by simp [arrearslaw8_LedgerBalanced.j1] at h, fun _ _ _ _ _ _ _ _ _ _ _ _ _ _ _ _ _ r h => by simp [arrearslaw8_LedgerBalanced.l1] at h, fun _ _ _ _ _ _ _ _ _ _ _ _ _ _ _ r h => by simp [arrearslaw8_LedgerBalanced.j3] at h⟩
 | k + 1 => by
  obtain ⟨ih0, ih1, ih2, ih3⟩ := arrearslaw8_LedgerBalanced.mono_l k
  refine ⟨?_, ?_, ?_, ?_⟩
  ·
   intro y0 y1 y2 y3 y4 y5 y6 y7 y8 y9 y10 y11 y12 y13
   unfold arrearslaw8_LedgerBalanced.l0
   repeat' first
   | (with_reducible exact ih0 _ _ _ _ _ _ _ _ _ _ _ _ _ _)
   | (with_reducible exact ih1 _ _ _ _ _ _ _ _ _ _ _ _ _ _ _)
   | (with_reducible exact ih2 _ _ _ _ _ _ _ _ _ _ _ _ _ _ _ _ _)
   | (with_reducible exact ih3 _ _ _ _ _ _ _ _ _ _ _ _ _ _ _)
   | (with_reducible exact arrearslaw8_ownSide.mono _ _ _ _ _ _ _ _ _ _ _ _ _)
   | (with_reducible exact arrearslaw8_same.mono _ _ _ _ _ _ _ _ _ _ _ _ _ _ _ _ _ _ _ _ _ _ _ _ _)
   | (with_reducible exact ledger_Reverse.mono _ _)
   | (with_reducible exact ledger_Trial.mono _ _ _ _ _ _ _ _ _ _ _ _ _)
   | (with_reducible exact LeO.refl _)
   | (with_reducible exact LeO.none _)
   | (with_reducible refine LeO.ite ?_ ?_)
   | (with_reducible refine LeO.bind ?_ (fun _ => ?_))
   | exact ih0 _ _ _ _ _ _ _ _ _ _ _ _ _ _
   | exact ih1 _ _ _ _ _ _ _ _ _ _ _ _ _ _ _
   | exact ih2 _ _ _ _ _ _ _ _ _ _ _ _ _ _ _ _ _
   | exact ih3 _ _ _ _ _ _ _ _ _ _ _ _ _ _ _
   | exact arrearslaw8_ownSide.mono _ _ _ _ _ _ _ _ _ _ _ _ _
   | exact arrearslaw8_same.mono _ _ _ _ _ _ _ _ _ _ _ _ _ _ _ _ _ _ _ _ _ _ _ _ _
   | exact ledger_Reverse.mono _ _
   | exact ledger_Trial.mono _ _ _ _ _ _ _ _ _ _ _ _ _
   | exact LeO.none _
   | refine LeO.ite ?_ ?_
   | refine LeO.bind ?_ (fun _ => ?_)
  ·
   intro y0 y1 y2 y3 y4 y5 y6 y7 y8 y9 y10 y11 y12 y13 y14
   unfold arrearslaw8_LedgerBalanced.j1
   repeat' first
   | (with_reducible exact ih0 _ _ _ _ _ _ _ _ _ _ _ _ _ _)
   | (with_reducible exact ih1 _ _ _ _ _ _ _ _ _ _ _ _ _ _ _)
   | (with_reducible exact ih2 _ _ _ _ _ _ _ _ _ _ _ _ _ _ _ _ _)
   | (with_reducible exact ih3 _ _ _ _ _ _ _ _ _ _ _ _ _ _ _)
   | (with_reducible exact arrearslaw8_ownSide.mono _ _ _ _ _ _ _ _ _ _ _ _ _)
   | (with_reducible exact arrearslaw8_same.mono _ _ _ _ _ _ _ _ _ _ _ _ _ _ _ _ _ _ _ _ _ _ _ _ _)
   | (with_reducible exact ledger_Reverse.mono _ _)
   | (with_reducible exact ledger_Trial.mono _ _ _ _ _ _ _ _ _ _ _ _ _)
   | (with_reducible exact LeO.refl _)
   | (with_reducible exact LeO.none _)
   | (with_reducible refine LeO.ite ?_ ?_)
   | (with_reducible refine LeO.bind ?_ (fun _ => ?_))
   | exact ih0 _ _ _ _ _ _ _ _ _ _ _ _ _ _
   | exact ih1 _ _ _ _ _ _ _ _ _ _ _ _ _ _ _
   | exact ih2 _ _ _ _ _ _ _ _ _ _ _ _ _ _ _ _ _
   | exact ih3 _ _ _ _ _ _ _ _ _ _ _ _ _ _ _
   | exact arrearslaw8_ownSide.mono _ _ _ _ _ _ _ _ _ _ _ _ _
   | exact arrearslaw8_same.mono _ _ _ _ _ _ _ _ _ _ _ _ _ _ _ _ _ _ _ _ _ _ _ _ _
   | exact ledger_Reverse.mono _ _
   | exact ledger_Trial.mono _ _ _ _ _ _ _ _ _ _ _ _ _
   | exact LeO.none _
   | refine LeO.ite ?_ ?_
   | refine LeO.bind ?_ (fun _ => ?_)
  ·
   intro y0 y1 y2 y3 y4 y5 y6 y7 y8 y9 y10 y11 y12 y13 y14 y15 y16
   unfold arrearslaw8_LedgerBalanced.l1
   repeat' first
   | (with_reducible exact ih0 _ _ _ _ _ _ _ _ _ _ _ _ _ _)
   | (with_reducible exact ih1 _ _ _ _ _ _ _ _ _ _ _ _ _ _ _)
   | (with_reducible exact ih2 _ _ _ _ _ _ _ _ _ _ _ _ _ _ _ _ _)
   | (with_reducible exact ih3 _ _ _ _ _ _ _ _ _ _ _ _ _ _ _)
   | (with_reducible exact arrearslaw8_ownSide.mono _ _ _ _ _ _ _ _ _ _ _ _ _)
   | (with_reducible exact arrearslaw8_same.mono _ _ _ _ _ _ _ _ _ _ _ _ _ _ _ _ _ _ _ _ _ _ _ _ _)
   | (with_reducible exact ledger_Reverse.mono _ _)
   | (with_reducible exact ledger_Trial.mono _ _ _ _ _ _ _ _ _ _ _ _ _)
   | (with_reducible exact LeO.refl _)
   | (with_reducible exact LeO.none _)
   | (with_reducible refine LeO.ite ?_ ?_)
   | (with_reducible refine LeO.bind ?_ (fun _ => ?_))
   | exact ih0 _ _ _ _ _ _ _ _ _ _ _ _ _ _
   | exact ih1 _ _ _ _ _ _ _ _ _ _ _ _ _ _ _
   | exact ih2 _ _ _ _ _ _ _ _ _ _ _ _ _ _ _ _ _
   | exact ih3 _ _ _ _ _ _ _ _ _ _ _ _ _ _ _
   | exact arrearslaw8_ownSide.mono _ _ _ _ _ _ _ _ _ _ _ _ _
   | exact arrearslaw8_same.mono _ _ _ _ _ _ _ _ _ _ _ _ _ _ _ _ _ _ _ _ _ _ _ _ _
   | exact ledger_Reverse.mono _ _
   | exact ledger_Trial.mono _ _ _ _ _ _ _ _ _ _ _ _ _
   | exact LeO.none _
   | refine LeO.ite ?_ ?_
   | refine LeO.bind ?_ (fun _ => ?_)
  ·
   intro y0 y1 y2 y3 y4 y5 y6 y7 y8 y9 y10 y11 y12 y13 y14
   unfold arrearslaw8_LedgerBalanced.j3
   repeat' first
   | (with_reducible exact ih0 _ _ _ _ _ _ _ _ _ _ _ _ _ _)
   | (with_reducible exact ih1 _ _ _ _ _ _ _ _ _ _ _ _ _ _ _)
   | (with_reducible exact ih2 _ _ _ _ _ _ _ _ _ _ _ _ _ _ _ _ _)
   | (with_reducible exact ih3 _ _ _ _ _ _ _ _ _ _ _ _ _ _ _)
   | (with_reducible exact arrearslaw8_ownSide.mono _ _ _ _ _ _ _ _ _ _ _ _ _)
   | (with_reducible exact arrearslaw8_same.mono _ _ _ _ _ _ _ _ _ _ _ _ _ _ _ _ _ _ _ _ _ _ _ _ _)
   | (with_reducible exact ledger_Reverse.mono _ _)
   | (with_reducible exact ledger_Trial.mono _ _ _ _ _ _ _ _ _ _ _ _ _)
   | (with_reducible exact LeO.refl _)
   | (with_reducible exact LeO.none _)
   | (with_reducible refine LeO.ite ?_ ?_)
   | (with_reducible refine LeO.bind ?_ (fun _ => ?_))
   | exact ih0 _ _ _ _ _ _ _ _ _ _ _ _ _ _
   | exact ih1 _ _ _ _ _ _ _ _ _ _ _ _ _ _ _
   | exact ih2 _ _ _ _ _ _ _ _ _ _ _ _ _ _ _ _ _
   | exact ih3 _ _ _ _ _ _ _ _ _ _ _ _ _ _ _
   | exact arrearslaw8_ownSide.mono _ _ _ _ _ _ _ _ _ _ _ _ _
   | exact arrearslaw8_same.mono _ _ _ _ _ _ _ _ _ _ _ _ _ _ _ _ _ _ _ _ _ _ _ _ _
   | exact ledger_Reverse.mono _ _
   | exact ledger_Trial.mono _ _ _ _ _ _ _ _ _ _ _ _ _
   | exact LeO.none _
   | refine LeO.ite ?_ ?_
   | refine LeO.bind ?_ (fun _ => ?_)
theorem arrearslaw8_LedgerBalanced.mono : ∀ a0 k, LeO (arrearslaw8_LedgerBalanced.f k a0) (arrearslaw8_LedgerBalanced.f (k + 1) a0) := by
 intro a0 k
 obtain ⟨ih0, ih1, ih2, ih3⟩ := arrearslaw8_LedgerBalanced.mono_l k
 unfold arrearslaw8_LedgerBalanced.f
 repeat' first
   | (with_reducible exact ih0 _ _ _ _ _ _ _ _ _ _ _ _ _ _)
   | (with_reducible exact ih1 _ _ _ _ _ _ _ _ _ _ _ _ _ _ _)
   | (with_reducible exact ih2 _ _ _ _ _ _ _ _ _ _ _ _ _ _ _ _ _)
   | (with_reducible exact ih3 _ _ _ _ _ _ _ _ _ _ _ _ _ _ _)
   | (with_reducible exact arrearslaw8_ownSide.mono _ _ _ _ _ _ _ _ _ _ _ _ _)
   | (with_reducible exact arrearslaw8_same.mono _ _ _ _ _ _ _ _ _ _ _ _ _ _ _ _ _ _ _ _ _ _ _ _ _)
   | (with_reducible exact ledger_Reverse.mono _ _)
   | (with_reducible exact ledger_Trial.mono _ _ _ _ _ _ _ _ _ _ _ _ _)
   | (with_reducible exact LeO.refl _)
   | (with_reducible exact LeO.none _)
   | (with_reducible refine LeO.ite ?_ ?_)
   | (with_reducible refine LeO.bind ?_ (fun _ => ?_))
   | exact ih0 _ _ _ _ _ _ _ _ _ _ _ _ _ _
   | exact ih1 _ _ _ _ _ _ _ _ _ _ _ _ _ _ _
   | exact ih2 _ _ _ _ _ _ _ _ _ _ _ _ _ _ _ _ _
   | exact ih3 _ _ _ _ _ _ _ _ _ _ _ _ _ _ _
   | exact arrearslaw8_ownSide.mono _ _ _ _ _ _ _ _ _ _ _ _ _
   | exact arrearslaw8_same.mono _ _ _ _ _ _ _ _ _ _ _ _ _ _ _ _ _ _ _ _ _ _ _ _ _
   | exact ledger_Reverse.mono _ _
   | exact ledger_Trial.mono _ _ _ _ _ _ _ _ _ _ _ _ _
   | exact LeO.none _
   | refine LeO.ite ?_ ?_
   | refine LeO.bind ?_ (fun _ => ?_)
set_option maxHeartbeats 8000000 in
set_option maxRecDepth 100000 in
theorem arrearslaw8_LedgerBalanced.calls (k : Nat) (A0 : Option Addr) (c0 : Nat) (l0 : List (List (S43))) (r : Bool) (w : World) (hr0 : Kd.C (Kd.slice 43 k43) w A0 l0.length l0) (hc0 : l0.length ≤ c0) (hL : Laid w) (h : arrearslaw8_LedgerBalanced.f k l0 = some r) :
  Calls Tryd.prog 10 #[.slice A0 l0.length c0] w fun e w' => e = .returned (.bool r) ∧ Below w.heap.size w w' := by
 have HL0_ := Aside0.mk hL
 clear hL
 have hu24 := Tryd.underlying24
 have hu51 := Tryd.underlying51
 have HR0 := Aside0.mk hr0
 have HC0 := Aside0.mk hc0
 clear hr0 hc0
 have HB := Aside0.mk (Below.refl w.heap.size w)
 have H : ((arrearslaw8_posts.f).bind fun t153 => (if t153 = true then (arrearslaw8_LedgerBalanced.l0 k l0 0 0 0 0 0 0 0 0 0 0 0 0 0) else (none))) = some r := h
 clear h
 replace H := Option.bind_eq_some_iff.mp H
 obtain ⟨t153, A20, H⟩ := H
 replace H : (if t153 = true then (arrearslaw8_LedgerBalanced.l0 k l0 0 0 0 0 0 0 0 0 0 0 0 0 0) else (none)) = some r := H
 have A2 := Aside0.mk A20
 clear A20
 by_cases c3 : t153 = true
 ·
  subst c3
  have H1 : (arrearslaw8_LedgerBalanced.l0 k l0 0 0 0 0 0 0 0 0 0 0 0 0 0) = some r := by rw [if_pos rfl] at H; exact H
  clear H
  have H := H1
  clear H1
  have H' := Aside0.mk H
  clear H
  go_enter Tryd.func10, Tryd.ntmps10
  go_wp2_with (first | ((with_reducible refine gate_callee (f := 22) rfl ?_); refine goesL_ (some 13) rfl rfl Tryd.func22 (by kernel_rfl) rfl #[] rfl (by (try simp only [List.map_toArray, List.map_cons, List.map_nil]); first | done | rfl | (simp only [List.length_drop, List.length_take]; rfl)) ?_; (with_reducible refine (arrearslaw8_posts.calls  true _ ?sideL A2.out).mono ?_); (case sideL => exact laid_at HL0_.out (by repeat (first | (with_reducible first | exact HB.out | apply below_alloc | apply pw_below_drewN | apply below_drew1 | refine below_set ?_ (Aside0.out (by assumption))) | exact HB.out | exact Below.refl _ _ | exact Drawn0.below (Drawn0.refl _)))); rintro e w4 ⟨rfl, hb⟩; refine ⟨_, rfl, ?_⟩; have n0_ := Aside0.mk (below_step (by repeat (first | (with_reducible first | exact HB.out | apply below_alloc | apply pw_below_drewN | apply below_drew1) | exact HB.out)) hb); clear HB; have HB := n0_; clear n0_; (try clear hb); (try clear hb2); (try clear hk); (try clear hi)) | ((with_reducible refine gate_dst (N := 3) rfl ?_); refine box_event ?hg (N := 3) ?hd (cs := #[.int .i64 0, .int .i64 0, .int .i64 0, .int .i64 0, .int .i64 0, .int .i64 0, .int .i64 0, .int .i64 0, .int .i64 0, .int .i64 0, .int .i64 0, .int .i64 0]) (t := 24) ?hr ?_; (case hd => rfl); (case hg => rfl); (case hr => first | (go_simp; done) | (go_simp; rfl)); intro gb154 hg w5 hbox hb; have n0_ := Aside0.mk (below_step (by repeat (first | (with_reducible first | exact HB.out | apply below_alloc | apply pw_below_drewN | apply below_drew1) | exact HB.out)) hb); have n1_ := Aside0.mk (hbox); have n2_ := Aside0.mk ((by rw [hg]; exact (below_size (by repeat (first | (with_reducible first | exact HB.out | apply below_alloc | apply pw_below_drewN | apply below_drew1) | exact HB.out))) : w.heap.size ≤ gb154)); have n3_ := Aside0.mk ((by rw [hg]; exact (below_size (by repeat (first | (with_reducible first | exact HB.out | apply below_alloc | apply pw_below_drewN | apply below_drew1) | exact HB.out))) : w.heap.size ≤ gb154)); clear HB; have HB := n0_; have BK154 := n1_; have GW154 := n2_; have GE154 := n3_; clear n0_ n1_ n2_ n3_; clear hb hbox hg))
  go_loopg [4] k (fun kq v4 w' => ∃ (x4_1 : Int) (x155000_1 : Int) (x155001_1 : Int) (x155002_1 : Int) (x155003_1 : Int) (x155004_1 : Int) (x155005_1 : Int) (x155006_1 : Int) (x155007_1 : Int) (x155008_1 : Int) (x155009_1 : Int) (x155010_1 : Int) (x155011_1 : Int), v4 = .int .i64 x4_1 ∧ Aside0 (arrearslaw8_LedgerBalanced.l0 kq l0 x4_1 x155000_1 x155001_1 x155002_1 x155003_1 x155004_1 x155005_1 x155006_1 x155007_1 x155008_1 x155009_1 x155010_1 x155011_1 = some r) ∧ Aside0 (kq ≤ k) ∧ Aside0 (w'.heap[gb154]? = some (.cells #[.int .i64 x155000_1, .int .i64 x155001_1, .int .i64 x155002_1, .int .i64 x155003_1, .int .i64 x155004_1, .int .i64 x155005_1, .int .i64 x155006_1, .int .i64 x155007_1, .int .i64 x155008_1, .int .i64 x155009_1, .int .i64 x155010_1, .int .i64 x155011_1] 24 (0, 0))) ∧ Aside0 (Below w.heap.size w w'))
  case atStart => exact ⟨(0), (0), (0), (0), (0), (0), (0), (0), (0), (0), (0), (0), (0), (by first | rfl | (simp; done) | (simp [*]; done)), H', ⟨Nat.le_refl _⟩, ⟨by (with_reducible repeat (first | refine blk_drewN ?_ _ | refine blk_drew ?_ | refine blk_alloc ?_ _)); exact BK154.out⟩, ⟨by repeat (first | (with_reducible first | exact HB.out | apply below_alloc | apply pw_below_drewN | apply below_drew1 | refine below_set ?_ GE154.out) | exact HB.out)⟩⟩
  case round =>
   clear H'
   try clear c1
   try clear c2
   try clear p2
   try clear c3
   obtain ⟨x4_1, x155000_1, x155001_1, x155002_1, x155003_1, x155004_1, x155005_1, x155006_1, x155007_1, x155008_1, x155009_1, x155010_1, x155011_1, rfl, HA, HK1, BK154, HB⟩ := hrel
   cases gk with
   | zero => exact absurd HA.out (by simp [arrearslaw8_LedgerBalanced.l0])
   | succ k1 =>
    have H := HA.out
    clear HA
    simp only [arrearslaw8_LedgerBalanced.l0] at H
    by_cases c6 : x4_1 < (l0.length : Int)
    ·
     rw [if_pos c6] at H
     have c6b0 : decide (x4_1 < (l0.length : Int)) = true := decide_eq_true c6
     clear c6
     by_cases c7 : 0 ≤ x4_1
     ·
      rw [if_pos c7] at H
      have c7b0 : decide (0 ≤ x4_1) = true := decide_eq_true c7
      clear c7
      by_cases c8 : (Int.tmod x4_1 3) = 2
      ·
       rw [if_pos c8] at H
       have c8b0 : ((Int.tmod x4_1 3) == 2) = true := beq_iff_eq.mpr c8
       have c8b1 : ((Int.tmod x4_1 3) != 2) = false := bne_eq_false_iff_eq.mpr c8
       clear c8
       obtain ⟨ji9, hji9⟩ : ∃ j_ : Int, (wrap64 (x4_1 - 1)) = j_ := ⟨_, rfl⟩
       replace H : (if 0 ≤ (ji9) then (if (ji9) < (l0.length : Int) then ((ledger_Reverse.f k1 (rd_L6 l0 (ji9))).bind fun t156 => ((ledger_Post.f x155000_1 x155001_1 x155002_1 x155003_1 x155004_1 x155005_1 x155006_1 x155007_1 x155008_1 x155009_1 x155010_1 x155011_1 t156).bind fun bt159 => (if bt159.2.2.2.2.2.2.2.2.2.2.2.2 = 0 then (arrearslaw8_LedgerBalanced.j1 k1 l0 x4_1 false bt159.1 bt159.2.1 bt159.2.2.1 bt159.2.2.2.1 bt159.2.2.2.2.1 bt159.2.2.2.2.2.1 bt159.2.2.2.2.2.2.1 bt159.2.2.2.2.2.2.2.1 bt159.2.2.2.2.2.2.2.2.1 bt159.2.2.2.2.2.2.2.2.2.1 bt159.2.2.2.2.2.2.2.2.2.2.1 bt159.2.2.2.2.2.2.2.2.2.2.2.1) else ((arrearslaw8_same.f k1 x155000_1 x155001_1 x155002_1 x155003_1 x155004_1 x155005_1 x155006_1 x155007_1 x155008_1 x155009_1 x155010_1 x155011_1 bt159.1 bt159.2.1 bt159.2.2.1 bt159.2.2.2.1 bt159.2.2.2.2.1 bt159.2.2.2.2.2.1 bt159.2.2.2.2.2.2.1 bt159.2.2.2.2.2.2.2.1 bt159.2.2.2.2.2.2.2.2.1 bt159.2.2.2.2.2.2.2.2.2.1 bt159.2.2.2.2.2.2.2.2.2.2.1 bt159.2.2.2.2.2.2.2.2.2.2.2.1).bind fun t172 => (arrearslaw8_LedgerBalanced.j1 k1 l0 x4_1 (!t172) bt159.1 bt159.2.1 bt159.2.2.1 bt159.2.2.2.1 bt159.2.2.2.2.1 bt159.2.2.2.2.2.1 bt159.2.2.2.2.2.2.1 bt159.2.2.2.2.2.2.2.1 bt159.2.2.2.2.2.2.2.2.1 bt159.2.2.2.2.2.2.2.2.2.1 bt159.2.2.2.2.2.2.2.2.2.2.1 bt159.2.2.2.2.2.2.2.2.2.2.2.1))))) else (none)) else (none)) = some r := by first | (rw [hji9] at H; exact H) | (simp only [hji9] at H ⊢; exact H)
       have hji9w : (IntKind.i64.wrap (x4_1 - 1)) = ji9 := (i64_w _).trans hji9
       by_cases c10 : 0 ≤ (ji9)
       ·
        rw [if_pos c10] at H
        have c10b0 : decide (0 ≤ (ji9)) = true := decide_eq_true c10
        clear c10
        by_cases c11 : (ji9) < (l0.length : Int)
        ·
         rw [if_pos c11] at H
         have c11b0 : decide ((ji9) < (l0.length : Int)) = true := decide_eq_true c11
         clear c11
         replace H := Option.bind_eq_some_iff.mp H
         obtain ⟨t156, A120, H⟩ := H
         replace H : ((ledger_Post.f x155000_1 x155001_1 x155002_1 x155003_1 x155004_1 x155005_1 x155006_1 x155007_1 x155008_1 x155009_1 x155010_1 x155011_1 t156).bind fun bt159 => (if bt159.2.2.2.2.2.2.2.2.2.2.2.2 = 0 then (arrearslaw8_LedgerBalanced.j1 k1 l0 x4_1 false bt159.1 bt159.2.1 bt159.2.2.1 bt159.2.2.2.1 bt159.2.2.2.2.1 bt159.2.2.2.2.2.1 bt159.2.2.2.2.2.2.1 bt159.2.2.2.2.2.2.2.1 bt159.2.2.2.2.2.2.2.2.1 bt159.2.2.2.2.2.2.2.2.2.1 bt159.2.2.2.2.2.2.2.2.2.2.1 bt159.2.2.2.2.2.2.2.2.2.2.2.1) else ((arrearslaw8_same.f k1 x155000_1 x155001_1 x155002_1 x155003_1 x155004_1 x155005_1 x155006_1 x155007_1 x155008_1 x155009_1 x155010_1 x155011_1 bt159.1 bt159.2.1 bt159.2.2.1 bt159.2.2.2.1 bt159.2.2.2.2.1 bt159.2.2.2.2.2.1 bt159.2.2.2.2.2.2.1 bt159.2.2.2.2.2.2.2.1 bt159.2.2.2.2.2.2.2.2.1 bt159.2.2.2.2.2.2.2.2.2.1 bt159.2.2.2.2.2.2.2.2.2.2.1 bt159.2.2.2.2.2.2.2.2.2.2.2.1).bind fun t172 => (arrearslaw8_LedgerBalanced.j1 k1 l0 x4_1 (!t172) bt159.1 bt159.2.1 bt159.2.2.1 bt159.2.2.2.1 bt159.2.2.2.2.1 bt159.2.2.2.2.2.1 bt159.2.2.2.2.2.2.1 bt159.2.2.2.2.2.2.2.1 bt159.2.2.2.2.2.2.2.2.1 bt159.2.2.2.2.2.2.2.2.2.1 bt159.2.2.2.2.2.2.2.2.2.2.1 bt159.2.2.2.2.2.2.2.2.2.2.2.1)))) = some r := H
         have A12 := Aside0.mk A120
         clear A120
         replace H := Option.bind_eq_some_iff.mp H
         obtain ⟨⟨t159, t160, t161, t162, t163, t164, t165, t166, t167, t168, t169, t170, t171⟩, A130, H⟩ := H
         replace H : (if t171 = 0 then (arrearslaw8_LedgerBalanced.j1 k1 l0 x4_1 false t159 t160 t161 t162 t163 t164 t165 t166 t167 t168 t169 t170) else ((arrearslaw8_same.f k1 x155000_1 x155001_1 x155002_1 x155003_1 x155004_1 x155005_1 x155006_1 x155007_1 x155008_1 x155009_1 x155010_1 x155011_1 t159 t160 t161 t162 t163 t164 t165 t166 t167 t168 t169 t170).bind fun t172 => (arrearslaw8_LedgerBalanced.j1 k1 l0 x4_1 (!t172) t159 t160 t161 t162 t163 t164 t165 t166 t167 t168 t169 t170))) = some r := H
         have A13 := Aside0.mk A130
         clear A130
         have HC14 := Aside0.mk H
         clear H
         have p154 : 0 ≤ (x4_1 : Int) := of_decide_eq_true (by first | (with_reducible assumption) | assumption)
         have q154 : x4_1 < (l0.length : Int) := of_decide_eq_true (by first | (with_reducible assumption) | assumption)
         obtain ⟨ad154, A154_0, c154_0, e154, hx154_0, hl154_0, hi154_0⟩ := at_L6 HR0.out x4_1 p154 q154
         cases e154
         replace hx154_0 := (HB.out.cell (World.block_lt_of_cell? w _ hx154_0)).trans hx154_0
         have HR154_0 := Aside0.mk hi154_0
         have HC154_0 := Aside0.mk hl154_0
         clear hi154_0 hl154_0
         replace p154 := eq_true p154
         replace q154 := eq_true q154
         have p155 : 0 ≤ ((ji9) : Int) := of_decide_eq_true (by first | (with_reducible assumption) | assumption)
         have q155 : (ji9) < (l0.length : Int) := of_decide_eq_true (by first | (with_reducible assumption) | assumption)
         obtain ⟨ad155, A155_0, c155_0, e155, hx155_0, hl155_0, hi155_0⟩ := at_L6 HR0.out (ji9) p155 q155
         obtain rfl : ad154 = ad155 := (by injection e155)
         replace hx155_0 := (HB.out.cell (World.block_lt_of_cell? w _ hx155_0)).trans hx155_0
         have HR155_0 := Aside0.mk hi155_0
         have HC155_0 := Aside0.mk hl155_0
         clear hi155_0 hl155_0
         replace p155 := eq_true p155
         replace q155 := eq_true q155
         go_upto_region 11 with (first | ((with_reducible refine gate_callee (f := 24) rfl ?_); refine goesL_ (some 33) rfl rfl Tryd.func24 (by kernel_rfl) rfl #[.slice A155_0 (rd_L6 l0 (ji9)).length c155_0] rfl (by (try simp only [List.map_toArray, List.map_cons, List.map_nil]); first | done | (simp only [hji9]; rfl) | rfl | (simp only [List.length_drop, List.length_take]; rfl)) ?_; (with_reducible refine (ledger_Reverse.calls k1 _ _ (rd_L6 l0 (ji9)) t156 _ ?side1 ?side2 A12.out).mono ?_); (case side1 => repeat (first | exact (Kd.C_below HR155_0.out HB.out) | (with_reducible refine Kd.C_alloc ?_ _) | (with_reducible refine Kd.C_drewN ?_ _) | (with_reducible refine Kd.C_drew ?_))); (case side2 => exact HC155_0.out); rintro e w15 ⟨v157, rfl, ho0, hb⟩; refine ⟨_, rfl, ?_⟩; have n0_ := Aside0.mk (Kd.R_lower ho0 (below_size (by repeat (first | (with_reducible first | exact HB.out | apply below_alloc | apply pw_below_drewN | apply below_drew1 | refine below_set ?_ GE154.out) | exact HB.out)))); have n1_ := Aside0.mk (blk_below (g := gb154) (o := .cells #[.int .i64 x155000_1, .int .i64 x155001_1, .int .i64 x155002_1, .int .i64 x155003_1, .int .i64 x155004_1, .int .i64 x155005_1, .int .i64 x155006_1, .int .i64 x155007_1, .int .i64 x155008_1, .int .i64 x155009_1, .int .i64 x155010_1, .int .i64 x155011_1] 24 (0, 0)) (by (with_reducible repeat (first | refine blk_drewN ?_ _ | refine blk_drew ?_ | refine blk_alloc ?_ _)); exact BK154.out) hb); have n2_ := Aside0.mk (below_step (by repeat (first | (with_reducible first | exact HB.out | apply below_alloc | apply pw_below_drewN | apply below_drew1 | refine below_set ?_ GE154.out) | exact HB.out)) hb); clear BK154; clear HB; have HO158 := n0_; have BK154 := n1_; have HB := n2_; clear n0_ n1_ n2_; (try clear hb); (try clear hb2); (try clear hk); (try clear hi); (try clear ho0); have hcz16_0 : w15.cell? ⟨gb154, 0, none⟩ = some (.int .i64 x155000_1) := (blk_cell BK154.out 0).trans rfl; have hcz16_1 : w15.cell? ⟨gb154, 1, none⟩ = some (.int .i64 x155001_1) := (blk_cell BK154.out 1).trans rfl; have hcz16_2 : w15.cell? ⟨gb154, 2, none⟩ = some (.int .i64 x155002_1) := (blk_cell BK154.out 2).trans rfl; have hcz16_3 : w15.cell? ⟨gb154, 3, none⟩ = some (.int .i64 x155003_1) := (blk_cell BK154.out 3).trans rfl; have hcz16_4 : w15.cell? ⟨gb154, 4, none⟩ = some (.int .i64 x155004_1) := (blk_cell BK154.out 4).trans rfl; have hcz16_5 : w15.cell? ⟨gb154, 5, none⟩ = some (.int .i64 x155005_1) := (blk_cell BK154.out 5).trans rfl; have hcz16_6 : w15.cell? ⟨gb154, 6, none⟩ = some (.int .i64 x155006_1) := (blk_cell BK154.out 6).trans rfl; have hcz16_7 : w15.cell? ⟨gb154, 7, none⟩ = some (.int .i64 x155007_1) := (blk_cell BK154.out 7).trans rfl; have hcz16_8 : w15.cell? ⟨gb154, 8, none⟩ = some (.int .i64 x155008_1) := (blk_cell BK154.out 8).trans rfl; have hcz16_9 : w15.cell? ⟨gb154, 9, none⟩ = some (.int .i64 x155009_1) := (blk_cell BK154.out 9).trans rfl; have hcz16_10 : w15.cell? ⟨gb154, 10, none⟩ = some (.int .i64 x155010_1) := (blk_cell BK154.out 10).trans rfl; have hcz16_11 : w15.cell? ⟨gb154, 11, none⟩ = some (.int .i64 x155011_1) := (blk_cell BK154.out 11).trans rfl; have hfz16_0 := blk_frozen BK154.out 0; have hfz16_1 := blk_frozen BK154.out 1; have hfz16_2 := blk_frozen BK154.out 2; have hfz16_3 := blk_frozen BK154.out 3; have hfz16_4 := blk_frozen BK154.out 4; have hfz16_5 := blk_frozen BK154.out 5; have hfz16_6 := blk_frozen BK154.out 6; have hfz16_7 := blk_frozen BK154.out 7; have hfz16_8 := blk_frozen BK154.out 8; have hfz16_9 := blk_frozen BK154.out 9; have hfz16_10 := blk_frozen BK154.out 10; have hfz16_11 := blk_frozen BK154.out 11; obtain ⟨Ao17, co17, eo17⟩ := Kd.R_slice HO158.out; subst eo17) | ((with_reducible refine gate_callee (f := 17) rfl ?_); refine goesL_ (some 37) rfl rfl Tryd.func17 (by kernel_rfl) rfl #[.agg #[.int .i64 x155000_1, .int .i64 x155001_1, .int .i64 x155002_1, .int .i64 x155003_1, .int .i64 x155004_1, .int .i64 x155005_1, .int .i64 x155006_1, .int .i64 x155007_1, .int .i64 x155008_1, .int .i64 x155009_1, .int .i64 x155010_1, .int .i64 x155011_1], .slice Ao17 t156.length co17] rfl (by (try simp only [List.map_toArray, List.map_cons, List.map_nil]); first | done | rfl | (simp only [List.length_drop, List.length_take]; rfl)) ?_; (with_reducible refine (ledger_Post.calls x155000_1 x155001_1 x155002_1 x155003_1 x155004_1 x155005_1 x155006_1 x155007_1 x155008_1 x155009_1 x155010_1 x155011_1 _ _ t156 t159 t160 t161 t162 t163 t164 t165 t166 t167 t168 t169 t170 t171 _ ?side1 ?side2 ?sideL A13.out).mono ?_); (case sideL => exact laid_at HL0_.out (by repeat (first | (with_reducible first | exact HB.out | apply below_alloc | apply pw_below_drewN | apply below_drew1 | refine below_set ?_ (Aside0.out (by assumption))) | exact HB.out | exact Below.refl _ _ | exact Drawn0.below (Drawn0.refl _)))); (case side1 => repeat (first | exact (Kd.R_reads' HO158.out).2.2 | (with_reducible refine Kd.C_alloc ?_ _) | (with_reducible refine Kd.C_drewN ?_ _) | (with_reducible refine Kd.C_drew ?_))); (case side2 => exact (Kd.R_reads' HO158.out).2.1); rintro e w18 ⟨rfl, hb⟩; refine ⟨_, rfl, ?_⟩; have n0_ := Aside0.mk (Kd.R_below (by (with_reducible repeat (first | apply Kd.R_alloc | apply Kd.R_drewN | apply Kd.R_drew)); exact HO158.out) hb); have n1_ := Aside0.mk (blk_below (g := gb154) (o := .cells #[.int .i64 x155000_1, .int .i64 x155001_1, .int .i64 x155002_1, .int .i64 x155003_1, .int .i64 x155004_1, .int .i64 x155005_1, .int .i64 x155006_1, .int .i64 x155007_1, .int .i64 x155008_1, .int .i64 x155009_1, .int .i64 x155010_1, .int .i64 x155011_1] 24 (0, 0)) (by (with_reducible repeat (first | refine blk_drewN ?_ _ | refine blk_drew ?_ | refine blk_alloc ?_ _)); exact BK154.out) hb); have n2_ := Aside0.mk (below_step (by repeat (first | (with_reducible first | exact HB.out | apply below_alloc | apply pw_below_drewN | apply below_drew1 | refine below_set ?_ GE154.out) | exact HB.out)) hb); clear HO158; clear BK154; clear HB; have HO158 := n0_; have BK154 := n1_; have HB := n2_; clear n0_ n1_ n2_; (try clear hb); (try clear hb2); (try clear hk); (try clear hi)) | ((with_reducible refine gate_dst (N := 6) rfl ?_); refine box_event ?hg (N := 6) ?hd (cs := #[.int .i64 0, .int .i64 0, .int .i64 0, .int .i64 0, .int .i64 0, .int .i64 0, .int .i64 0, .int .i64 0, .int .i64 0, .int .i64 0, .int .i64 0, .int .i64 0]) (t := 24) ?hr ?_; (case hd => rfl); (case hg => rfl); (case hr => first | (go_simp; done) | (go_simp; rfl)); intro gb173 hg w19 hbox hb; have n0_ := Aside0.mk (Kd.R_below (by (with_reducible repeat (first | apply Kd.R_alloc | apply Kd.R_drewN | apply Kd.R_drew)); exact HO158.out) hb); have n1_ := Aside0.mk (blk_below (g := gb154) (o := .cells #[.int .i64 x155000_1, .int .i64 x155001_1, .int .i64 x155002_1, .int .i64 x155003_1, .int .i64 x155004_1, .int .i64 x155005_1, .int .i64 x155006_1, .int .i64 x155007_1, .int .i64 x155008_1, .int .i64 x155009_1, .int .i64 x155010_1, .int .i64 x155011_1] 24 (0, 0)) (by (with_reducible repeat (first | refine blk_drewN ?_ _ | refine blk_drew ?_ | refine blk_alloc ?_ _)); exact BK154.out) hb); have n2_ := Aside0.mk (below_step (by repeat (first | (with_reducible first | exact HB.out | apply below_alloc | apply pw_below_drewN | apply below_drew1 | refine below_set ?_ GE154.out) | exact HB.out)) hb); have n3_ := Aside0.mk (hbox); have n4_ := Aside0.mk ((by rw [hg]; exact (below_size (by repeat (first | (with_reducible first | exact HB.out | apply below_alloc | apply pw_below_drewN | apply below_drew1 | refine below_set ?_ GE154.out) | exact HB.out))) : w.heap.size ≤ gb173)); have n5_ := Aside0.mk ((by rw [hg]; exact (below_size (by repeat (first | (with_reducible first | exact HB.out | apply below_alloc | apply pw_below_drewN | apply below_drew1 | refine below_set ?_ GE154.out) | exact HB.out))) : w.heap.size ≤ gb173)); have n6_ := Aside0.mk ((by rw [hg]; exact Nat.ne_of_lt (blk_lt (g := gb154) (o := .cells #[.int .i64 x155000_1, .int .i64 x155001_1, .int .i64 x155002_1, .int .i64 x155003_1, .int .i64 x155004_1, .int .i64 x155005_1, .int .i64 x155006_1, .int .i64 x155007_1, .int .i64 x155008_1, .int .i64 x155009_1, .int .i64 x155010_1, .int .i64 x155011_1] 24 (0, 0)) (by (with_reducible repeat (first | refine blk_drewN ?_ _ | refine blk_drew ?_ | refine blk_alloc ?_ _)); exact BK154.out)) : gb154 ≠ gb173)); have n7_ := Aside0.mk ((by rw [hg]; exact Nat.ne_of_gt (blk_lt (g := gb154) (o := .cells #[.int .i64 x155000_1, .int .i64 x155001_1, .int .i64 x155002_1, .int .i64 x155003_1, .int .i64 x155004_1, .int .i64 x155005_1, .int .i64 x155006_1, .int .i64 x155007_1, .int .i64 x155008_1, .int .i64 x155009_1, .int .i64 x155010_1, .int .i64 x155011_1] 24 (0, 0)) (by (with_reducible repeat (first | refine blk_drewN ?_ _ | refine blk_drew ?_ | refine blk_alloc ?_ _)); exact BK154.out)) : gb173 ≠ gb154)); clear HO158; clear BK154; clear HB; have HO158 := n0_; have BK154 := n1_; have HB := n2_; have BK173 := n3_; have GW173 := n4_; have GE173 := n5_; have NB154_173 := n6_; have NB173_154 := n7_; clear n0_ n1_ n2_ n3_ n4_ n5_ n6_ n7_; clear hb hbox hg; have hnb20 := NB173_154.out; have hnc20 := NB154_173.out; have hcz21_0 : w19.cell? ⟨gb173, 0, none⟩ = some (.int .i64 0) := (blk_cell BK173.out 0).trans rfl; have hcz21_1 : w19.cell? ⟨gb173, 1, none⟩ = some (.int .i64 0) := (blk_cell BK173.out 1).trans rfl; have hcz21_2 : w19.cell? ⟨gb173, 2, none⟩ = some (.int .i64 0) := (blk_cell BK173.out 2).trans rfl; have hcz21_3 : w19.cell? ⟨gb173, 3, none⟩ = some (.int .i64 0) := (blk_cell BK173.out 3).trans rfl; have hcz21_4 : w19.cell? ⟨gb173, 4, none⟩ = some (.int .i64 0) := (blk_cell BK173.out 4).trans rfl; have hcz21_5 : w19.cell? ⟨gb173, 5, none⟩ = some (.int .i64 0) := (blk_cell BK173.out 5).trans rfl; have hcz21_6 : w19.cell? ⟨gb173, 6, none⟩ = some (.int .i64 0) := (blk_cell BK173.out 6).trans rfl; have hcz21_7 : w19.cell? ⟨gb173, 7, none⟩ = some (.int .i64 0) := (blk_cell BK173.out 7).trans rfl; have hcz21_8 : w19.cell? ⟨gb173, 8, none⟩ = some (.int .i64 0) := (blk_cell BK173.out 8).trans rfl; have hcz21_9 : w19.cell? ⟨gb173, 9, none⟩ = some (.int .i64 0) := (blk_cell BK173.out 9).trans rfl; have hcz21_10 : w19.cell? ⟨gb173, 10, none⟩ = some (.int .i64 0) := (blk_cell BK173.out 10).trans rfl; have hcz21_11 : w19.cell? ⟨gb173, 11, none⟩ = some (.int .i64 0) := (blk_cell BK173.out 11).trans rfl; have hfz21_0 := blk_frozen BK173.out 0; have hfz21_1 := blk_frozen BK173.out 1; have hfz21_2 := blk_frozen BK173.out 2; have hfz21_3 := blk_frozen BK173.out 3; have hfz21_4 := blk_frozen BK173.out 4; have hfz21_5 := blk_frozen BK173.out 5; have hfz21_6 := blk_frozen BK173.out 6; have hfz21_7 := blk_frozen BK173.out 7; have hfz21_8 := blk_frozen BK173.out 8; have hfz21_9 := blk_frozen BK173.out 9; have hfz21_10 := blk_frozen BK173.out 10; have hfz21_11 := blk_frozen BK173.out 11))
         (try simp only [Act.put, List.setIfInBounds_toArray, List.set_cons_zero, List.set_cons_succ])
         go_cut [47] (fun v47 wc => ∃ (kq : Nat) (x47_13 : Bool), v47 = .bool x47_13 ∧ Aside0 (arrearslaw8_LedgerBalanced.j1 kq l0 x4_1 x47_13 t159 t160 t161 t162 t163 t164 t165 t166 t167 t168 t169 t170 = some r) ∧ Aside0 (kq ≤ k1) ∧ Aside0 (wc.heap[gb154]? = some (.cells #[.int .i64 x155000_1, .int .i64 x155001_1, .int .i64 x155002_1, .int .i64 x155003_1, .int .i64 x155004_1, .int .i64 x155005_1, .int .i64 x155006_1, .int .i64 x155007_1, .int .i64 x155008_1, .int .i64 x155009_1, .int .i64 x155010_1, .int .i64 x155011_1] 24 (0, 0))) ∧ Aside0 (wc.heap[gb173]? = some (.cells #[.int .i64 t159, .int .i64 t160, .int .i64 t161, .int .i64 t162, .int .i64 t163, .int .i64 t164, .int .i64 t165, .int .i64 t166, .int .i64 t167, .int .i64 t168, .int .i64 t169, .int .i64 t170] 24 (0, 0))) ∧ Aside0 (Below w.heap.size w wc))
         case first =>
          have H := HC14.out
          clear HC14
          by_cases c22 : t171 = 0
          ·
           rw [if_pos c22] at H
           have c22b0 : (t171 == 0) = true := beq_iff_eq.mpr c22
           have c22b1 : (t171 != 0) = false := bne_eq_false_iff_eq.mpr c22
           clear c22
           (first | rw [c22b0] | (simp only [i64_w, i32_w]; rw [c22b0]) | skip)
           have H' := Aside0.mk H
           clear H
           go_wp2
           go_meet
           case rel => exact ⟨_, (false), (by first | rfl | (simp; done) | (simp [*]; done)), H', ⟨by have := HK1.out; first | omega | exact Nat.le_refl _⟩, ⟨by (with_reducible repeat (first | refine blk_drewN ?_ _ | refine blk_drew ?_ | refine blk_alloc ?_ _)); refine blk_far ?_ NB154_173.out _; (with_reducible repeat (first | refine blk_drewN ?_ _ | refine blk_drew ?_ | refine blk_alloc ?_ _)); refine blk_far ?_ NB154_173.out _; (with_reducible repeat (first | refine blk_drewN ?_ _ | refine blk_drew ?_ | refine blk_alloc ?_ _)); refine blk_far ?_ NB154_173.out _; (with_reducible repeat (first | refine blk_drewN ?_ _ | refine blk_drew ?_ | refine blk_alloc ?_ _)); refine blk_far ?_ NB154_173.out _; (with_reducible repeat (first | refine blk_drewN ?_ _ | refine blk_drew ?_ | refine blk_alloc ?_ _)); refine blk_far ?_ NB154_173.out _; (with_reducible repeat (first | refine blk_drewN ?_ _ | refine blk_drew ?_ | refine blk_alloc ?_ _)); refine blk_far ?_ NB154_173.out _; (with_reducible repeat (first | refine blk_drewN ?_ _ | refine blk_drew ?_ | refine blk_alloc ?_ _)); refine blk_far ?_ NB154_173.out _; (with_reducible repeat (first | refine blk_drewN ?_ _ | refine blk_drew ?_ | refine blk_alloc ?_ _)); refine blk_far ?_ NB154_173.out _; (with_reducible repeat (first | refine blk_drewN ?_ _ | refine blk_drew ?_ | refine blk_alloc ?_ _)); refine blk_far ?_ NB154_173.out _; (with_reducible repeat (first | refine blk_drewN ?_ _ | refine blk_drew ?_ | refine blk_alloc ?_ _)); refine blk_far ?_ NB154_173.out _; (with_reducible repeat (first | refine blk_drewN ?_ _ | refine blk_drew ?_ | refine blk_alloc ?_ _)); refine blk_far ?_ NB154_173.out _; (with_reducible repeat (first | refine blk_drewN ?_ _ | refine blk_drew ?_ | refine blk_alloc ?_ _)); refine blk_far ?_ NB154_173.out _; (with_reducible repeat (first | refine blk_drewN ?_ _ | refine blk_drew ?_ | refine blk_alloc ?_ _)); exact BK154.out⟩, ⟨by (with_reducible repeat (first | refine blk_drewN ?_ _ | refine blk_drew ?_ | refine blk_alloc ?_ _)); refine blk_put (cs := #[.int .i64 t159, .int .i64 t160, .int .i64 t161, .int .i64 t162, .int .i64 t163, .int .i64 t164, .int .i64 t165, .int .i64 t166, .int .i64 t167, .int .i64 t168, .int .i64 t169, .int .i64 0]) ?_ 11 _ rfl; (with_reducible repeat (first | refine blk_drewN ?_ _ | refine blk_drew ?_ | refine blk_alloc ?_ _)); refine blk_put (cs := #[.int .i64 t159, .int .i64 t160, .int .i64 t161, .int .i64 t162, .int .i64 t163, .int .i64 t164, .int .i64 t165, .int .i64 t166, .int .i64 t167, .int .i64 t168, .int .i64 0, .int .i64 0]) ?_ 10 _ rfl; (with_reducible repeat (first | refine blk_drewN ?_ _ | refine blk_drew ?_ | refine blk_alloc ?_ _)); refine blk_put (cs := #[.int .i64 t159, .int .i64 t160, .int .i64 t161, .int .i64 t162, .int .i64 t163, .int .i64 t164, .int .i64 t165, .int .i64 t166, .int .i64 t167, .int .i64 0, .int .i64 0, .int .i64 0]) ?_ 9 _ rfl; (with_reducible repeat (first | refine blk_drewN ?_ _ | refine blk_drew ?_ | refine blk_alloc ?_ _)); refine blk_put (cs := #[.int .i64 t159, .int .i64 t160, .int .i64 t161, .int .i64 t162, .int .i64 t163, .int .i64 t164, .int .i64 t165, .int .i64 t166, .int .i64 0, .int .i64 0, .int .i64 0, .int .i64 0]) ?_ 8 _ rfl; (with_reducible repeat (first | refine blk_drewN ?_ _ | refine blk_drew ?_ | refine blk_alloc ?_ _)); refine blk_put (cs := #[.int .i64 t159, .int .i64 t160, .int .i64 t161, .int .i64 t162, .int .i64 t163, .int .i64 t164, .int .i64 t165, .int .i64 0, .int .i64 0, .int .i64 0, .int .i64 0, .int .i64 0]) ?_ 7 _ rfl; (with_reducible repeat (first | refine blk_drewN ?_ _ | refine blk_drew ?_ | refine blk_alloc ?_ _)); refine blk_put (cs := #[.int .i64 t159, .int .i64 t160, .int .i64 t161, .int .i64 t162, .int .i64 t163, .int .i64 t164, .int .i64 0, .int .i64 0, .int .i64 0, .int .i64 0, .int .i64 0, .int .i64 0]) ?_ 6 _ rfl; (with_reducible repeat (first | refine blk_drewN ?_ _ | refine blk_drew ?_ | refine blk_alloc ?_ _)); refine blk_put (cs := #[.int .i64 t159, .int .i64 t160, .int .i64 t161, .int .i64 t162, .int .i64 t163, .int .i64 0, .int .i64 0, .int .i64 0, .int .i64 0, .int .i64 0, .int .i64 0, .int .i64 0]) ?_ 5 _ rfl; (with_reducible repeat (first | refine blk_drewN ?_ _ | refine blk_drew ?_ | refine blk_alloc ?_ _)); refine blk_put (cs := #[.int .i64 t159, .int .i64 t160, .int .i64 t161, .int .i64 t162, .int .i64 0, .int .i64 0, .int .i64 0, .int .i64 0, .int .i64 0, .int .i64 0, .int .i64 0, .int .i64 0]) ?_ 4 _ rfl; (with_reducible repeat (first | refine blk_drewN ?_ _ | refine blk_drew ?_ | refine blk_alloc ?_ _)); refine blk_put (cs := #[.int .i64 t159, .int .i64 t160, .int .i64 t161, .int .i64 0, .int .i64 0, .int .i64 0, .int .i64 0, .int .i64 0, .int .i64 0, .int .i64 0, .int .i64 0, .int .i64 0]) ?_ 3 _ rfl; (with_reducible repeat (first | refine blk_drewN ?_ _ | refine blk_drew ?_ | refine blk_alloc ?_ _)); refine blk_put (cs := #[.int .i64 t159, .int .i64 t160, .int .i64 0, .int .i64 0, .int .i64 0, .int .i64 0, .int .i64 0, .int .i64 0, .int .i64 0, .int .i64 0, .int .i64 0, .int .i64 0]) ?_ 2 _ rfl; (with_reducible repeat (first | refine blk_drewN ?_ _ | refine blk_drew ?_ | refine blk_alloc ?_ _)); refine blk_put (cs := #[.int .i64 t159, .int .i64 0, .int .i64 0, .int .i64 0, .int .i64 0, .int .i64 0, .int .i64 0, .int .i64 0, .int .i64 0, .int .i64 0, .int .i64 0, .int .i64 0]) ?_ 1 _ rfl; (with_reducible repeat (first | refine blk_drewN ?_ _ | refine blk_drew ?_ | refine blk_alloc ?_ _)); refine blk_put (cs := #[.int .i64 0, .int .i64 0, .int .i64 0, .int .i64 0, .int .i64 0, .int .i64 0, .int .i64 0, .int .i64 0, .int .i64 0, .int .i64 0, .int .i64 0, .int .i64 0]) ?_ 0 _ rfl; (with_reducible repeat (first | refine blk_drewN ?_ _ | refine blk_drew ?_ | refine blk_alloc ?_ _)); exact BK173.out⟩, ⟨by repeat (first | (with_reducible first | exact HB.out | apply below_alloc | apply pw_below_drewN | apply below_drew1 | refine below_set ?_ GE154.out | refine below_set ?_ GE173.out) | exact HB.out)⟩⟩
          ·
           rw [if_neg c22] at H
           have c22b0 : (t171 == 0) = false := beq_eq_false_iff_ne.mpr c22
           have c22b1 : (t171 != 0) = true := bne_iff_ne.mpr c22
           (first | rw [c22b0] | (simp only [i64_w, i32_w]; rw [c22b0]) | skip)
           replace H := Option.bind_eq_some_iff.mp H
           obtain ⟨t172, A230, H⟩ := H
           replace H : (arrearslaw8_LedgerBalanced.j1 k1 l0 x4_1 (!t172) t159 t160 t161 t162 t163 t164 t165 t166 t167 t168 t169 t170) = some r := H
           have A23 := Aside0.mk A230
           clear A230
           have H' := Aside0.mk H
           clear H
           have hnb24 := NB154_173.out
           have hnc24 := NB173_154.out
           have hcz25_0 : w19.cell? ⟨gb154, 0, none⟩ = some (.int .i64 x155000_1) := (blk_cell BK154.out 0).trans rfl
           have hcz25_1 : w19.cell? ⟨gb154, 1, none⟩ = some (.int .i64 x155001_1) := (blk_cell BK154.out 1).trans rfl
           have hcz25_2 : w19.cell? ⟨gb154, 2, none⟩ = some (.int .i64 x155002_1) := (blk_cell BK154.out 2).trans rfl
           have hcz25_3 : w19.cell? ⟨gb154, 3, none⟩ = some (.int .i64 x155003_1) := (blk_cell BK154.out 3).trans rfl
           have hcz25_4 : w19.cell? ⟨gb154, 4, none⟩ = some (.int .i64 x155004_1) := (blk_cell BK154.out 4).trans rfl
           have hcz25_5 : w19.cell? ⟨gb154, 5, none⟩ = some (.int .i64 x155005_1) := (blk_cell BK154.out 5).trans rfl
           have hcz25_6 : w19.cell? ⟨gb154, 6, none⟩ = some (.int .i64 x155006_1) := (blk_cell BK154.out 6).trans rfl
           have hcz25_7 : w19.cell? ⟨gb154, 7, none⟩ = some (.int .i64 x155007_1) := (blk_cell BK154.out 7).trans rfl
           have hcz25_8 : w19.cell? ⟨gb154, 8, none⟩ = some (.int .i64 x155008_1) := (blk_cell BK154.out 8).trans rfl
           have hcz25_9 : w19.cell? ⟨gb154, 9, none⟩ = some (.int .i64 x155009_1) := (blk_cell BK154.out 9).trans rfl
           have hcz25_10 : w19.cell? ⟨gb154, 10, none⟩ = some (.int .i64 x155010_1) := (blk_cell BK154.out 10).trans rfl
           have hcz25_11 : w19.cell? ⟨gb154, 11, none⟩ = some (.int .i64 x155011_1) := (blk_cell BK154.out 11).trans rfl
           have hfz25_0 := blk_frozen BK154.out 0
           have hfz25_1 := blk_frozen BK154.out 1
           have hfz25_2 := blk_frozen BK154.out 2
           have hfz25_3 := blk_frozen BK154.out 3
           have hfz25_4 := blk_frozen BK154.out 4
           have hfz25_5 := blk_frozen BK154.out 5
           have hfz25_6 := blk_frozen BK154.out 6
           have hfz25_7 := blk_frozen BK154.out 7
           have hfz25_8 := blk_frozen BK154.out 8
           have hfz25_9 := blk_frozen BK154.out 9
           have hfz25_10 := blk_frozen BK154.out 10
           have hfz25_11 := blk_frozen BK154.out 11
           have hcz26_0 : w19.cell? ⟨gb173, 0, none⟩ = some (.int .i64 0) := (blk_cell BK173.out 0).trans rfl
           have hcz26_1 : w19.cell? ⟨gb173, 1, none⟩ = some (.int .i64 0) := (blk_cell BK173.out 1).trans rfl
           have hcz26_2 : w19.cell? ⟨gb173, 2, none⟩ = some (.int .i64 0) := (blk_cell BK173.out 2).trans rfl
           have hcz26_3 : w19.cell? ⟨gb173, 3, none⟩ = some (.int .i64 0) := (blk_cell BK173.out 3).trans rfl
           have hcz26_4 : w19.cell? ⟨gb173, 4, none⟩ = some (.int .i64 0) := (blk_cell BK173.out 4).trans rfl
           have hcz26_5 : w19.cell? ⟨gb173, 5, none⟩ = some (.int .i64 0) := (blk_cell BK173.out 5).trans rfl
           have hcz26_6 : w19.cell? ⟨gb173, 6, none⟩ = some (.int .i64 0) := (blk_cell BK173.out 6).trans rfl
           have hcz26_7 : w19.cell? ⟨gb173, 7, none⟩ = some (.int .i64 0) := (blk_cell BK173.out 7).trans rfl
           have hcz26_8 : w19.cell? ⟨gb173, 8, none⟩ = some (.int .i64 0) := (blk_cell BK173.out 8).trans rfl
           have hcz26_9 : w19.cell? ⟨gb173, 9, none⟩ = some (.int .i64 0) := (blk_cell BK173.out 9).trans rfl
           have hcz26_10 : w19.cell? ⟨gb173, 10, none⟩ = some (.int .i64 0) := (blk_cell BK173.out 10).trans rfl
           have hcz26_11 : w19.cell? ⟨gb173, 11, none⟩ = some (.int .i64 0) := (blk_cell BK173.out 11).trans rfl
           have hfz26_0 := blk_frozen BK173.out 0
           have hfz26_1 := blk_frozen BK173.out 1
           have hfz26_2 := blk_frozen BK173.out 2
           have hfz26_3 := blk_frozen BK173.out 3
           have hfz26_4 := blk_frozen BK173.out 4
           have hfz26_5 := blk_frozen BK173.out 5
           have hfz26_6 := blk_frozen BK173.out 6
           have hfz26_7 := blk_frozen BK173.out 7
           have hfz26_8 := blk_frozen BK173.out 8
           have hfz26_9 := blk_frozen BK173.out 9
           have hfz26_10 := blk_frozen BK173.out 10
           have hfz26_11 := blk_frozen BK173.out 11
           go_wp2_with (first | (go_at_call 19; (with_reducible refine (arrearslaw8_same.calls k1 x155000_1 x155001_1 x155002_1 x155003_1 x155004_1 x155005_1 x155006_1 x155007_1 x155008_1 x155009_1 x155010_1 x155011_1 t159 t160 t161 t162 t163 t164 t165 t166 t167 t168 t169 t170 t172 _ A23.out).mono ?_); rintro e w27 ⟨rfl, hb⟩; have n0_ := Aside0.mk (Kd.R_below (by (with_reducible repeat (first | apply Kd.R_alloc | apply Kd.R_drewN | apply Kd.R_drew)); exact (Kd.R_mono (Kd.R_far (p := ⟨gb173, 11, none⟩) (Kd.R_far (p := ⟨gb173, 10, none⟩) (Kd.R_far (p := ⟨gb173, 9, none⟩) (Kd.R_far (p := ⟨gb173, 8, none⟩) (Kd.R_far (p := ⟨gb173, 7, none⟩) (Kd.R_far (p := ⟨gb173, 6, none⟩) (Kd.R_far (p := ⟨gb173, 5, none⟩) (Kd.R_far (p := ⟨gb173, 4, none⟩) (Kd.R_far (p := ⟨gb173, 3, none⟩) (Kd.R_far (p := ⟨gb173, 2, none⟩) (Kd.R_far (p := ⟨gb173, 1, none⟩) (Kd.R_far (p := ⟨gb173, 0, none⟩) (Kd.R_types HO158.out BK173.out (by decide)) (fun _ hk => hk.2) (.int .i64 t159)) (fun _ hk => hk.2) (.int .i64 t160)) (fun _ hk => hk.2) (.int .i64 t161)) (fun _ hk => hk.2) (.int .i64 t162)) (fun _ hk => hk.2) (.int .i64 t163)) (fun _ hk => hk.2) (.int .i64 t164)) (fun _ hk => hk.2) (.int .i64 t165)) (fun _ hk => hk.2) (.int .i64 t166)) (fun _ hk => hk.2) (.int .i64 t167)) (fun _ hk => hk.2) (.int .i64 t168)) (fun _ hk => hk.2) (.int .i64 t169)) (fun _ hk => hk.2) (.int .i64 t170)) (fun _ h_ => h_.1))) hb); have n1_ := Aside0.mk (blk_below (g := gb154) (o := .cells #[.int .i64 x155000_1, .int .i64 x155001_1, .int .i64 x155002_1, .int .i64 x155003_1, .int .i64 x155004_1, .int .i64 x155005_1, .int .i64 x155006_1, .int .i64 x155007_1, .int .i64 x155008_1, .int .i64 x155009_1, .int .i64 x155010_1, .int .i64 x155011_1] 24 (0, 0)) (by (with_reducible repeat (first | refine blk_drewN ?_ _ | refine blk_drew ?_ | refine blk_alloc ?_ _)); refine blk_far ?_ NB154_173.out _; (with_reducible repeat (first | refine blk_drewN ?_ _ | refine blk_drew ?_ | refine blk_alloc ?_ _)); refine blk_far ?_ NB154_173.out _; (with_reducible repeat (first | refine blk_drewN ?_ _ | refine blk_drew ?_ | refine blk_alloc ?_ _)); refine blk_far ?_ NB154_173.out _; (with_reducible repeat (first | refine blk_drewN ?_ _ | refine blk_drew ?_ | refine blk_alloc ?_ _)); refine blk_far ?_ NB154_173.out _; (with_reducible repeat (first | refine blk_drewN ?_ _ | refine blk_drew ?_ | refine blk_alloc ?_ _)); refine blk_far ?_ NB154_173.out _; (with_reducible repeat (first | refine blk_drewN ?_ _ | refine blk_drew ?_ | refine blk_alloc ?_ _)); refine blk_far ?_ NB154_173.out _; (with_reducible repeat (first | refine blk_drewN ?_ _ | refine blk_drew ?_ | refine blk_alloc ?_ _)); refine blk_far ?_ NB154_173.out _; (with_reducible repeat (first | refine blk_drewN ?_ _ | refine blk_drew ?_ | refine blk_alloc ?_ _)); refine blk_far ?_ NB154_173.out _; (with_reducible repeat (first | refine blk_drewN ?_ _ | refine blk_drew ?_ | refine blk_alloc ?_ _)); refine blk_far ?_ NB154_173.out _; (with_reducible repeat (first | refine blk_drewN ?_ _ | refine blk_drew ?_ | refine blk_alloc ?_ _)); refine blk_far ?_ NB154_173.out _; (with_reducible repeat (first | refine blk_drewN ?_ _ | refine blk_drew ?_ | refine blk_alloc ?_ _)); refine blk_far ?_ NB154_173.out _; (with_reducible repeat (first | refine blk_drewN ?_ _ | refine blk_drew ?_ | refine blk_alloc ?_ _)); refine blk_far ?_ NB154_173.out _; (with_reducible repeat (first | refine blk_drewN ?_ _ | refine blk_drew ?_ | refine blk_alloc ?_ _)); exact BK154.out) hb); have n2_ := Aside0.mk (blk_below (g := gb173) (o := .cells #[.int .i64 t159, .int .i64 t160, .int .i64 t161, .int .i64 t162, .int .i64 t163, .int .i64 t164, .int .i64 t165, .int .i64 t166, .int .i64 t167, .int .i64 t168, .int .i64 t169, .int .i64 t170] 24 (0, 0)) (by (with_reducible repeat (first | refine blk_drewN ?_ _ | refine blk_drew ?_ | refine blk_alloc ?_ _)); refine blk_put (cs := #[.int .i64 t159, .int .i64 t160, .int .i64 t161, .int .i64 t162, .int .i64 t163, .int .i64 t164, .int .i64 t165, .int .i64 t166, .int .i64 t167, .int .i64 t168, .int .i64 t169, .int .i64 0]) ?_ 11 _ rfl; (with_reducible repeat (first | refine blk_drewN ?_ _ | refine blk_drew ?_ | refine blk_alloc ?_ _)); refine blk_put (cs := #[.int .i64 t159, .int .i64 t160, .int .i64 t161, .int .i64 t162, .int .i64 t163, .int .i64 t164, .int .i64 t165, .int .i64 t166, .int .i64 t167, .int .i64 t168, .int .i64 0, .int .i64 0]) ?_ 10 _ rfl; (with_reducible repeat (first | refine blk_drewN ?_ _ | refine blk_drew ?_ | refine blk_alloc ?_ _)); refine blk_put (cs := #[.int .i64 t159, .int .i64 t160, .int .i64 t161, .int .i64 t162, .int .i64 t163, .int .i64 t164, .int .i64 t165, .int .i64 t166, .int .i64 t167, .int .i64 0, .int .i64 0, .int .i64 0]) ?_ 9 _ rfl; (with_reducible repeat (first | refine blk_drewN ?_ _ | refine blk_drew ?_ | refine blk_alloc ?_ _)); refine blk_put (cs := #[.int .i64 t159, .int .i64 t160, .int .i64 t161, .int .i64 t162, .int .i64 t163, .int .i64 t164, .int .i64 t165, .int .i64 t166, .int .i64 0, .int .i64 0, .int .i64 0, .int .i64 0]) ?_ 8 _ rfl; (with_reducible repeat (first | refine blk_drewN ?_ _ | refine blk_drew ?_ | refine blk_alloc ?_ _)); refine blk_put (cs := #[.int .i64 t159, .int .i64 t160, .int .i64 t161, .int .i64 t162, .int .i64 t163, .int .i64 t164, .int .i64 t165, .int .i64 0, .int .i64 0, .int .i64 0, .int .i64 0, .int .i64 0]) ?_ 7 _ rfl; (with_reducible repeat (first | refine blk_drewN ?_ _ | refine blk_drew ?_ | refine blk_alloc ?_ _)); refine blk_put (cs := #[.int .i64 t159, .int .i64 t160, .int .i64 t161, .int .i64 t162, .int .i64 t163, .int .i64 t164, .int .i64 0, .int .i64 0, .int .i64 0, .int .i64 0, .int .i64 0, .int .i64 0]) ?_ 6 _ rfl; (with_reducible repeat (first | refine blk_drewN ?_ _ | refine blk_drew ?_ | refine blk_alloc ?_ _)); refine blk_put (cs := #[.int .i64 t159, .int .i64 t160, .int .i64 t161, .int .i64 t162, .int .i64 t163, .int .i64 0, .int .i64 0, .int .i64 0, .int .i64 0, .int .i64 0, .int .i64 0, .int .i64 0]) ?_ 5 _ rfl; (with_reducible repeat (first | refine blk_drewN ?_ _ | refine blk_drew ?_ | refine blk_alloc ?_ _)); refine blk_put (cs := #[.int .i64 t159, .int .i64 t160, .int .i64 t161, .int .i64 t162, .int .i64 0, .int .i64 0, .int .i64 0, .int .i64 0, .int .i64 0, .int .i64 0, .int .i64 0, .int .i64 0]) ?_ 4 _ rfl; (with_reducible repeat (first | refine blk_drewN ?_ _ | refine blk_drew ?_ | refine blk_alloc ?_ _)); refine blk_put (cs := #[.int .i64 t159, .int .i64 t160, .int .i64 t161, .int .i64 0, .int .i64 0, .int .i64 0, .int .i64 0, .int .i64 0, .int .i64 0, .int .i64 0, .int .i64 0, .int .i64 0]) ?_ 3 _ rfl; (with_reducible repeat (first | refine blk_drewN ?_ _ | refine blk_drew ?_ | refine blk_alloc ?_ _)); refine blk_put (cs := #[.int .i64 t159, .int .i64 t160, .int .i64 0, .int .i64 0, .int .i64 0, .int .i64 0, .int .i64 0, .int .i64 0, .int .i64 0, .int .i64 0, .int .i64 0, .int .i64 0]) ?_ 2 _ rfl; (with_reducible repeat (first | refine blk_drewN ?_ _ | refine blk_drew ?_ | refine blk_alloc ?_ _)); refine blk_put (cs := #[.int .i64 t159, .int .i64 0, .int .i64 0, .int .i64 0, .int .i64 0, .int .i64 0, .int .i64 0, .int .i64 0, .int .i64 0, .int .i64 0, .int .i64 0, .int .i64 0]) ?_ 1 _ rfl; (with_reducible repeat (first | refine blk_drewN ?_ _ | refine blk_drew ?_ | refine blk_alloc ?_ _)); refine blk_put (cs := #[.int .i64 0, .int .i64 0, .int .i64 0, .int .i64 0, .int .i64 0, .int .i64 0, .int .i64 0, .int .i64 0, .int .i64 0, .int .i64 0, .int .i64 0, .int .i64 0]) ?_ 0 _ rfl; (with_reducible repeat (first | refine blk_drewN ?_ _ | refine blk_drew ?_ | refine blk_alloc ?_ _)); exact BK173.out) hb); have n3_ := Aside0.mk (below_step (by repeat (first | (with_reducible first | exact HB.out | apply below_alloc | apply pw_below_drewN | apply below_drew1 | refine below_set ?_ GE154.out | refine below_set ?_ GE173.out) | exact HB.out)) hb); clear HO158; clear BK154; clear BK173; clear HB; have HO158 := n0_; have BK154 := n1_; have BK173 := n2_; have HB := n3_; clear n0_ n1_ n2_ n3_; (try clear hb); (try clear hb2); (try clear hk); (try clear hi)))
           go_meet
           case rel => exact ⟨_, (!t172), (by first | rfl | (simp; done) | (simp [*]; done)), H', ⟨by have := HK1.out; first | omega | exact Nat.le_refl _⟩, ⟨by (with_reducible repeat (first | refine blk_drewN ?_ _ | refine blk_drew ?_ | refine blk_alloc ?_ _)); exact BK154.out⟩, ⟨by (with_reducible repeat (first | refine blk_drewN ?_ _ | refine blk_drew ?_ | refine blk_alloc ?_ _)); exact BK173.out⟩, ⟨by repeat (first | (with_reducible first | exact HB.out | apply below_alloc | apply pw_below_drewN | apply below_drew1 | refine below_set ?_ GE154.out | refine below_set ?_ GE173.out) | exact HB.out)⟩⟩
         case rest =>
          clear HC14
          try clear c1
          try clear p1
          try clear q1
          try clear hx1
          try clear c2
          try clear p2
          try clear c3
          try clear c6
          try clear c6b0
          try clear p6
          try clear c7
          try clear c7b0
          try clear c8
          try clear c8b0
          try clear c8b1
          try clear c10
          try clear c10b0
          try clear c11
          try clear c11b0
          try clear c15
          try clear p15
          try clear q15
          try clear hx15
          try clear c17
          try clear c20
          try clear c22
          try clear c22b0
          try clear c22b1
          try clear c24
          try clear hcz16_0
          try clear hcz16_1
          try clear hcz16_10
          try clear hcz16_11
          try clear hcz16_2
          try clear hcz16_3
          try clear hcz16_4
          try clear hcz16_5
          try clear hcz16_6
          try clear hcz16_7
          try clear hcz16_8
          try clear hcz16_9
          try clear hcz21_0
          try clear hcz21_1
          try clear hcz21_10
          try clear hcz21_11
          try clear hcz21_2
          try clear hcz21_3
          try clear hcz21_4
          try clear hcz21_5
          try clear hcz21_6
          try clear hcz21_7
          try clear hcz21_8
          try clear hcz21_9
          try clear hcz25_0
          try clear hcz25_1
          try clear hcz25_10
          try clear hcz25_11
          try clear hcz25_2
          try clear hcz25_3
          try clear hcz25_4
          try clear hcz25_5
          try clear hcz25_6
          try clear hcz25_7
          try clear hcz25_8
          try clear hcz25_9
          try clear hcz26_0
          try clear hcz26_1
          try clear hcz26_10
          try clear hcz26_11
          try clear hcz26_2
          try clear hcz26_3
          try clear hcz26_4
          try clear hcz26_5
          try clear hcz26_6
          try clear hcz26_7
          try clear hcz26_8
          try clear hcz26_9
          try clear hfz16_0
          try clear hfz16_1
          try clear hfz16_10
          try clear hfz16_11
          try clear hfz16_2
          try clear hfz16_3
          try clear hfz16_4
          try clear hfz16_5
          try clear hfz16_6
          try clear hfz16_7
          try clear hfz16_8
          try clear hfz16_9
          try clear hfz21_0
          try clear hfz21_1
          try clear hfz21_10
          try clear hfz21_11
          try clear hfz21_2
          try clear hfz21_3
          try clear hfz21_4
          try clear hfz21_5
          try clear hfz21_6
          try clear hfz21_7
          try clear hfz21_8
          try clear hfz21_9
          try clear hfz25_0
          try clear hfz25_1
          try clear hfz25_10
          try clear hfz25_11
          try clear hfz25_2
          try clear hfz25_3
          try clear hfz25_4
          try clear hfz25_5
          try clear hfz25_6
          try clear hfz25_7
          try clear hfz25_8
          try clear hfz25_9
          try clear hfz26_0
          try clear hfz26_1
          try clear hfz26_10
          try clear hfz26_11
          try clear hfz26_2
          try clear hfz26_3
          try clear hfz26_4
          try clear hfz26_5
          try clear hfz26_6
          try clear hfz26_7
          try clear hfz26_8
          try clear hfz26_9
          try clear hx154_0
          try clear hx155_0
          try clear p154
          try clear p155
          try clear p2
          try clear q154
          try clear q155
          obtain ⟨kq, x47_13, rfl, HA, HJ13, BK154, BK173, HB⟩ := hcut
          cases kq with
          | zero => exact absurd HA.out (by simp [arrearslaw8_LedgerBalanced.j1])
          | succ kj13 =>
           have H := HA.out
           clear HA
           simp only [arrearslaw8_LedgerBalanced.j1] at H
           by_cases c28 : x47_13 = true
           ·
            subst c28
            have H1 : (none) = some r := by rw [if_pos rfl] at H; exact H
            clear H
            have H := H1
            clear H1
            exact absurd H (by simp)
           ·
            replace c28 := Bool.eq_false_iff.mpr c28
            subst c28
            have H1 : (arrearslaw8_LedgerBalanced.l1 kj13 l0 x4_1 0 t159 t160 t161 t162 t163 t164 t165 t166 t167 t168 t169 t170 0 0) = some r := by rw [if_neg (show ¬ (false = true) by decide)] at H; exact H
            clear H
            have H := H1
            clear H1
            have H' := Aside0.mk H
            clear H
            have hnb29 := NB173_154.out
            have hnc29 := NB154_173.out
            have hcz30_0 : wc.cell? ⟨gb173, 0, none⟩ = some (.int .i64 t159) := (blk_cell BK173.out 0).trans rfl
            have hcz30_1 : wc.cell? ⟨gb173, 1, none⟩ = some (.int .i64 t160) := (blk_cell BK173.out 1).trans rfl
            have hcz30_2 : wc.cell? ⟨gb173, 2, none⟩ = some (.int .i64 t161) := (blk_cell BK173.out 2).trans rfl
            have hcz30_3 : wc.cell? ⟨gb173, 3, none⟩ = some (.int .i64 t162) := (blk_cell BK173.out 3).trans rfl
            have hcz30_4 : wc.cell? ⟨gb173, 4, none⟩ = some (.int .i64 t163) := (blk_cell BK173.out 4).trans rfl
            have hcz30_5 : wc.cell? ⟨gb173, 5, none⟩ = some (.int .i64 t164) := (blk_cell BK173.out 5).trans rfl
            have hcz30_6 : wc.cell? ⟨gb173, 6, none⟩ = some (.int .i64 t165) := (blk_cell BK173.out 6).trans rfl
            have hcz30_7 : wc.cell? ⟨gb173, 7, none⟩ = some (.int .i64 t166) := (blk_cell BK173.out 7).trans rfl
            have hcz30_8 : wc.cell? ⟨gb173, 8, none⟩ = some (.int .i64 t167) := (blk_cell BK173.out 8).trans rfl
            have hcz30_9 : wc.cell? ⟨gb173, 9, none⟩ = some (.int .i64 t168) := (blk_cell BK173.out 9).trans rfl
            have hcz30_10 : wc.cell? ⟨gb173, 10, none⟩ = some (.int .i64 t169) := (blk_cell BK173.out 10).trans rfl
            have hcz30_11 : wc.cell? ⟨gb173, 11, none⟩ = some (.int .i64 t170) := (blk_cell BK173.out 11).trans rfl
            have hfz30_0 := blk_frozen BK173.out 0
            have hfz30_1 := blk_frozen BK173.out 1
            have hfz30_2 := blk_frozen BK173.out 2
            have hfz30_3 := blk_frozen BK173.out 3
            have hfz30_4 := blk_frozen BK173.out 4
            have hfz30_5 := blk_frozen BK173.out 5
            have hfz30_6 := blk_frozen BK173.out 6
            have hfz30_7 := blk_frozen BK173.out 7
            have hfz30_8 := blk_frozen BK173.out 8
            have hfz30_9 := blk_frozen BK173.out 9
            have hfz30_10 := blk_frozen BK173.out 10
            have hfz30_11 := blk_frozen BK173.out 11
            have hcz31_0 : wc.cell? ⟨gb154, 0, none⟩ = some (.int .i64 x155000_1) := (blk_cell BK154.out 0).trans rfl
            have hcz31_1 : wc.cell? ⟨gb154, 1, none⟩ = some (.int .i64 x155001_1) := (blk_cell BK154.out 1).trans rfl
            have hcz31_2 : wc.cell? ⟨gb154, 2, none⟩ = some (.int .i64 x155002_1) := (blk_cell BK154.out 2).trans rfl
            have hcz31_3 : wc.cell? ⟨gb154, 3, none⟩ = some (.int .i64 x155003_1) := (blk_cell BK154.out 3).trans rfl
            have hcz31_4 : wc.cell? ⟨gb154, 4, none⟩ = some (.int .i64 x155004_1) := (blk_cell BK154.out 4).trans rfl
            have hcz31_5 : wc.cell? ⟨gb154, 5, none⟩ = some (.int .i64 x155005_1) := (blk_cell BK154.out 5).trans rfl
            have hcz31_6 : wc.cell? ⟨gb154, 6, none⟩ = some (.int .i64 x155006_1) := (blk_cell BK154.out 6).trans rfl
            have hcz31_7 : wc.cell? ⟨gb154, 7, none⟩ = some (.int .i64 x155007_1) := (blk_cell BK154.out 7).trans rfl
            have hcz31_8 : wc.cell? ⟨gb154, 8, none⟩ = some (.int .i64 x155008_1) := (blk_cell BK154.out 8).trans rfl
            have hcz31_9 : wc.cell? ⟨gb154, 9, none⟩ = some (.int .i64 x155009_1) := (blk_cell BK154.out 9).trans rfl
            have hcz31_10 : wc.cell? ⟨gb154, 10, none⟩ = some (.int .i64 x155010_1) := (blk_cell BK154.out 10).trans rfl
            have hcz31_11 : wc.cell? ⟨gb154, 11, none⟩ = some (.int .i64 x155011_1) := (blk_cell BK154.out 11).trans rfl
            have hfz31_0 := blk_frozen BK154.out 0
            have hfz31_1 := blk_frozen BK154.out 1
            have hfz31_2 := blk_frozen BK154.out 2
            have hfz31_3 := blk_frozen BK154.out 3
            have hfz31_4 := blk_frozen BK154.out 4
            have hfz31_5 := blk_frozen BK154.out 5
            have hfz31_6 := blk_frozen BK154.out 6
            have hfz31_7 := blk_frozen BK154.out 7
            have hfz31_8 := blk_frozen BK154.out 8
            have hfz31_9 := blk_frozen BK154.out 9
            have hfz31_10 := blk_frozen BK154.out 10
            have hfz31_11 := blk_frozen BK154.out 11
            go_wp2_with (first | ((with_reducible refine gate_dst (N := 8) rfl ?_); refine box_event ?hg (N := 8) ?hd (cs := #[.int .i64 0, .int .i64 0]) (t := 51) ?hr ?_; (case hd => rfl); (case hg => rfl); (case hr => first | (go_simp; done) | (go_simp; rfl)); intro gb175 hg w32 hbox hb; have n0_ := Aside0.mk (blk_below (g := gb154) (o := .cells #[.int .i64 t159, .int .i64 t160, .int .i64 t161, .int .i64 t162, .int .i64 t163, .int .i64 t164, .int .i64 t165, .int .i64 t166, .int .i64 t167, .int .i64 t168, .int .i64 t169, .int .i64 t170] 24 (0, 0)) (by (with_reducible repeat (first | refine blk_drewN ?_ _ | refine blk_drew ?_ | refine blk_alloc ?_ _)); refine blk_put (cs := #[.int .i64 t159, .int .i64 t160, .int .i64 t161, .int .i64 t162, .int .i64 t163, .int .i64 t164, .int .i64 t165, .int .i64 t166, .int .i64 t167, .int .i64 t168, .int .i64 t169, .int .i64 x155011_1]) ?_ 11 _ rfl; (with_reducible repeat (first | refine blk_drewN ?_ _ | refine blk_drew ?_ | refine blk_alloc ?_ _)); refine blk_put (cs := #[.int .i64 t159, .int .i64 t160, .int .i64 t161, .int .i64 t162, .int .i64 t163, .int .i64 t164, .int .i64 t165, .int .i64 t166, .int .i64 t167, .int .i64 t168, .int .i64 x155010_1, .int .i64 x155011_1]) ?_ 10 _ rfl; (with_reducible repeat (first | refine blk_drewN ?_ _ | refine blk_drew ?_ | refine blk_alloc ?_ _)); refine blk_put (cs := #[.int .i64 t159, .int .i64 t160, .int .i64 t161, .int .i64 t162, .int .i64 t163, .int .i64 t164, .int .i64 t165, .int .i64 t166, .int .i64 t167, .int .i64 x155009_1, .int .i64 x155010_1, .int .i64 x155011_1]) ?_ 9 _ rfl; (with_reducible repeat (first | refine blk_drewN ?_ _ | refine blk_drew ?_ | refine blk_alloc ?_ _)); refine blk_put (cs := #[.int .i64 t159, .int .i64 t160, .int .i64 t161, .int .i64 t162, .int .i64 t163, .int .i64 t164, .int .i64 t165, .int .i64 t166, .int .i64 x155008_1, .int .i64 x155009_1, .int .i64 x155010_1, .int .i64 x155011_1]) ?_ 8 _ rfl; (with_reducible repeat (first | refine blk_drewN ?_ _ | refine blk_drew ?_ | refine blk_alloc ?_ _)); refine blk_put (cs := #[.int .i64 t159, .int .i64 t160, .int .i64 t161, .int .i64 t162, .int .i64 t163, .int .i64 t164, .int .i64 t165, .int .i64 x155007_1, .int .i64 x155008_1, .int .i64 x155009_1, .int .i64 x155010_1, .int .i64 x155011_1]) ?_ 7 _ rfl; (with_reducible repeat (first | refine blk_drewN ?_ _ | refine blk_drew ?_ | refine blk_alloc ?_ _)); refine blk_put (cs := #[.int .i64 t159, .int .i64 t160, .int .i64 t161, .int .i64 t162, .int .i64 t163, .int .i64 t164, .int .i64 x155006_1, .int .i64 x155007_1, .int .i64 x155008_1, .int .i64 x155009_1, .int .i64 x155010_1, .int .i64 x155011_1]) ?_ 6 _ rfl; (with_reducible repeat (first | refine blk_drewN ?_ _ | refine blk_drew ?_ | refine blk_alloc ?_ _)); refine blk_put (cs := #[.int .i64 t159, .int .i64 t160, .int .i64 t161, .int .i64 t162, .int .i64 t163, .int .i64 x155005_1, .int .i64 x155006_1, .int .i64 x155007_1, .int .i64 x155008_1, .int .i64 x155009_1, .int .i64 x155010_1, .int .i64 x155011_1]) ?_ 5 _ rfl; (with_reducible repeat (first | refine blk_drewN ?_ _ | refine blk_drew ?_ | refine blk_alloc ?_ _)); refine blk_put (cs := #[.int .i64 t159, .int .i64 t160, .int .i64 t161, .int .i64 t162, .int .i64 x155004_1, .int .i64 x155005_1, .int .i64 x155006_1, .int .i64 x155007_1, .int .i64 x155008_1, .int .i64 x155009_1, .int .i64 x155010_1, .int .i64 x155011_1]) ?_ 4 _ rfl; (with_reducible repeat (first | refine blk_drewN ?_ _ | refine blk_drew ?_ | refine blk_alloc ?_ _)); refine blk_put (cs := #[.int .i64 t159, .int .i64 t160, .int .i64 t161, .int .i64 x155003_1, .int .i64 x155004_1, .int .i64 x155005_1, .int .i64 x155006_1, .int .i64 x155007_1, .int .i64 x155008_1, .int .i64 x155009_1, .int .i64 x155010_1, .int .i64 x155011_1]) ?_ 3 _ rfl; (with_reducible repeat (first | refine blk_drewN ?_ _ | refine blk_drew ?_ | refine blk_alloc ?_ _)); refine blk_put (cs := #[.int .i64 t159, .int .i64 t160, .int .i64 x155002_1, .int .i64 x155003_1, .int .i64 x155004_1, .int .i64 x155005_1, .int .i64 x155006_1, .int .i64 x155007_1, .int .i64 x155008_1, .int .i64 x155009_1, .int .i64 x155010_1, .int .i64 x155011_1]) ?_ 2 _ rfl; (with_reducible repeat (first | refine blk_drewN ?_ _ | refine blk_drew ?_ | refine blk_alloc ?_ _)); refine blk_put (cs := #[.int .i64 t159, .int .i64 x155001_1, .int .i64 x155002_1, .int .i64 x155003_1, .int .i64 x155004_1, .int .i64 x155005_1, .int .i64 x155006_1, .int .i64 x155007_1, .int .i64 x155008_1, .int .i64 x155009_1, .int .i64 x155010_1, .int .i64 x155011_1]) ?_ 1 _ rfl; (with_reducible repeat (first | refine blk_drewN ?_ _ | refine blk_drew ?_ | refine blk_alloc ?_ _)); refine blk_put (cs := #[.int .i64 x155000_1, .int .i64 x155001_1, .int .i64 x155002_1, .int .i64 x155003_1, .int .i64 x155004_1, .int .i64 x155005_1, .int .i64 x155006_1, .int .i64 x155007_1, .int .i64 x155008_1, .int .i64 x155009_1, .int .i64 x155010_1, .int .i64 x155011_1]) ?_ 0 _ rfl; (with_reducible repeat (first | refine blk_drewN ?_ _ | refine blk_drew ?_ | refine blk_alloc ?_ _)); exact BK154.out) hb); have n1_ := Aside0.mk (blk_below (g := gb173) (o := .cells #[.int .i64 t159, .int .i64 t160, .int .i64 t161, .int .i64 t162, .int .i64 t163, .int .i64 t164, .int .i64 t165, .int .i64 t166, .int .i64 t167, .int .i64 t168, .int .i64 t169, .int .i64 t170] 24 (0, 0)) (by (with_reducible repeat (first | refine blk_drewN ?_ _ | refine blk_drew ?_ | refine blk_alloc ?_ _)); refine blk_far ?_ NB173_154.out _; (with_reducible repeat (first | refine blk_drewN ?_ _ | refine blk_drew ?_ | refine blk_alloc ?_ _)); refine blk_far ?_ NB173_154.out _; (with_reducible repeat (first | refine blk_drewN ?_ _ | refine blk_drew ?_ | refine blk_alloc ?_ _)); refine blk_far ?_ NB173_154.out _; (with_reducible repeat (first | refine blk_drewN ?_ _ | refine blk_drew ?_ | refine blk_alloc ?_ _)); refine blk_far ?_ NB173_154.out _; (with_reducible repeat (first | refine blk_drewN ?_ _ | refine blk_drew ?_ | refine blk_alloc ?_ _)); refine blk_far ?_ NB173_154.out _; (with_reducible repeat (first | refine blk_drewN ?_ _ | refine blk_drew ?_ | refine blk_alloc ?_ _)); refine blk_far ?_ NB173_154.out _; (with_reducible repeat (first | refine blk_drewN ?_ _ | refine blk_drew ?_ | refine blk_alloc ?_ _)); refine blk_far ?_ NB173_154.out _; (with_reducible repeat (first | refine blk_drewN ?_ _ | refine blk_drew ?_ | refine blk_alloc ?_ _)); refine blk_far ?_ NB173_154.out _; (with_reducible repeat (first | refine blk_drewN ?_ _ | refine blk_drew ?_ | refine blk_alloc ?_ _)); refine blk_far ?_ NB173_154.out _; (with_reducible repeat (first | refine blk_drewN ?_ _ | refine blk_drew ?_ | refine blk_alloc ?_ _)); refine blk_far ?_ NB173_154.out _; (with_reducible repeat (first | refine blk_drewN ?_ _ | refine blk_drew ?_ | refine blk_alloc ?_ _)); refine blk_far ?_ NB173_154.out _; (with_reducible repeat (first | refine blk_drewN ?_ _ | refine blk_drew ?_ | refine blk_alloc ?_ _)); refine blk_far ?_ NB173_154.out _; (with_reducible repeat (first | refine blk_drewN ?_ _ | refine blk_drew ?_ | refine blk_alloc ?_ _)); exact BK173.out) hb); have n2_ := Aside0.mk (below_step (by repeat (first | (with_reducible first | exact HB.out | apply below_alloc | apply pw_below_drewN | apply below_drew1 | refine below_set ?_ GE154.out | refine below_set ?_ GE173.out) | exact HB.out)) hb); have n3_ := Aside0.mk (hbox); have n4_ := Aside0.mk ((by rw [hg]; exact (below_size (by repeat (first | (with_reducible first | exact HB.out | apply below_alloc | apply pw_below_drewN | apply below_drew1 | refine below_set ?_ GE154.out | refine below_set ?_ GE173.out) | exact HB.out))) : w.heap.size ≤ gb175)); have n5_ := Aside0.mk ((by rw [hg]; exact (below_size (by repeat (first | (with_reducible first | exact HB.out | apply below_alloc | apply pw_below_drewN | apply below_drew1 | refine below_set ?_ GE154.out | refine below_set ?_ GE173.out) | exact HB.out))) : w.heap.size ≤ gb175)); have n6_ := Aside0.mk ((by rw [hg]; exact Nat.ne_of_lt (blk_lt (g := gb154) (o := .cells #[.int .i64 t159, .int .i64 t160, .int .i64 t161, .int .i64 t162, .int .i64 t163, .int .i64 t164, .int .i64 t165, .int .i64 t166, .int .i64 t167, .int .i64 t168, .int .i64 t169, .int .i64 t170] 24 (0, 0)) (by (with_reducible repeat (first | refine blk_drewN ?_ _ | refine blk_drew ?_ | refine blk_alloc ?_ _)); refine blk_put (cs := #[.int .i64 t159, .int .i64 t160, .int .i64 t161, .int .i64 t162, .int .i64 t163, .int .i64 t164, .int .i64 t165, .int .i64 t166, .int .i64 t167, .int .i64 t168, .int .i64 t169, .int .i64 x155011_1]) ?_ 11 _ rfl; (with_reducible repeat (first | refine blk_drewN ?_ _ | refine blk_drew ?_ | refine blk_alloc ?_ _)); refine blk_put (cs := #[.int .i64 t159, .int .i64 t160, .int .i64 t161, .int .i64 t162, .int .i64 t163, .int .i64 t164, .int .i64 t165, .int .i64 t166, .int .i64 t167, .int .i64 t168, .int .i64 x155010_1, .int .i64 x155011_1]) ?_ 10 _ rfl; (with_reducible repeat (first | refine blk_drewN ?_ _ | refine blk_drew ?_ | refine blk_alloc ?_ _)); refine blk_put (cs := #[.int .i64 t159, .int .i64 t160, .int .i64 t161, .int .i64 t162, .int .i64 t163, .int .i64 t164, .int .i64 t165, .int .i64 t166, .int .i64 t167, .int .i64 x155009_1, .int .i64 x155010_1, .int .i64 x155011_1]) ?_ 9 _ rfl; (with_reducible repeat (first | refine blk_drewN ?_ _ | refine blk_drew ?_ | refine blk_alloc ?_ _)); refine blk_put (cs := #[.int .i64 t159, .int .i64 t160, .int .i64 t161, .int .i64 t162, .int .i64 t163, .int .i64 t164, .int .i64 t165, .int .i64 t166, .int .i64 x155008_1, .int .i64 x155009_1, .int .i64 x155010_1, .int .i64 x155011_1]) ?_ 8 _ rfl; (with_reducible repeat (first | refine blk_drewN ?_ _ | refine blk_drew ?_ | refine blk_alloc ?_ _)); refine blk_put (cs := #[.int .i64 t159, .int .i64 t160, .int .i64 t161, .int .i64 t162, .int .i64 t163, .int .i64 t164, .int .i64 t165, .int .i64 x155007_1, .int .i64 x155008_1, .int .i64 x155009_1, .int .i64 x155010_1, .int .i64 x155011_1]) ?_ 7 _ rfl; (with_reducible repeat (first | refine blk_drewN ?_ _ | refine blk_drew ?_ | refine blk_alloc ?_ _)); refine blk_put (cs := #[.int .i64 t159, .int .i64 t160, .int .i64 t161, .int .i64 t162, .int .i64 t163, .int .i64 t164, .int .i64 x155006_1, .int .i64 x155007_1, .int .i64 x155008_1, .int .i64 x155009_1, .int .i64 x155010_1, .int .i64 x155011_1]) ?_ 6 _ rfl; (with_reducible repeat (first | refine blk_drewN ?_ _ | refine blk_drew ?_ | refine blk_alloc ?_ _)); refine blk_put (cs := #[.int .i64 t159, .int .i64 t160, .int .i64 t161, .int .i64 t162, .int .i64 t163, .int .i64 x155005_1, .int .i64 x155006_1, .int .i64 x155007_1, .int .i64 x155008_1, .int .i64 x155009_1, .int .i64 x155010_1, .int .i64 x155011_1]) ?_ 5 _ rfl; (with_reducible repeat (first | refine blk_drewN ?_ _ | refine blk_drew ?_ | refine blk_alloc ?_ _)); refine blk_put (cs := #[.int .i64 t159, .int .i64 t160, .int .i64 t161, .int .i64 t162, .int .i64 x155004_1, .int .i64 x155005_1, .int .i64 x155006_1, .int .i64 x155007_1, .int .i64 x155008_1, .int .i64 x155009_1, .int .i64 x155010_1, .int .i64 x155011_1]) ?_ 4 _ rfl; (with_reducible repeat (first | refine blk_drewN ?_ _ | refine blk_drew ?_ | refine blk_alloc ?_ _)); refine blk_put (cs := #[.int .i64 t159, .int .i64 t160, .int .i64 t161, .int .i64 x155003_1, .int .i64 x155004_1, .int .i64 x155005_1, .int .i64 x155006_1, .int .i64 x155007_1, .int .i64 x155008_1, .int .i64 x155009_1, .int .i64 x155010_1, .int .i64 x155011_1]) ?_ 3 _ rfl; (with_reducible repeat (first | refine blk_drewN ?_ _ | refine blk_drew ?_ | refine blk_alloc ?_ _)); refine blk_put (cs := #[.int .i64 t159, .int .i64 t160, .int .i64 x155002_1, .int .i64 x155003_1, .int .i64 x155004_1, .int .i64 x155005_1, .int .i64 x155006_1, .int .i64 x155007_1, .int .i64 x155008_1, .int .i64 x155009_1, .int .i64 x155010_1, .int .i64 x155011_1]) ?_ 2 _ rfl; (with_reducible repeat (first | refine blk_drewN ?_ _ | refine blk_drew ?_ | refine blk_alloc ?_ _)); refine blk_put (cs := #[.int .i64 t159, .int .i64 x155001_1, .int .i64 x155002_1, .int .i64 x155003_1, .int .i64 x155004_1, .int .i64 x155005_1, .int .i64 x155006_1, .int .i64 x155007_1, .int .i64 x155008_1, .int .i64 x155009_1, .int .i64 x155010_1, .int .i64 x155011_1]) ?_ 1 _ rfl; (with_reducible repeat (first | refine blk_drewN ?_ _ | refine blk_drew ?_ | refine blk_alloc ?_ _)); refine blk_put (cs := #[.int .i64 x155000_1, .int .i64 x155001_1, .int .i64 x155002_1, .int .i64 x155003_1, .int .i64 x155004_1, .int .i64 x155005_1, .int .i64 x155006_1, .int .i64 x155007_1, .int .i64 x155008_1, .int .i64 x155009_1, .int .i64 x155010_1, .int .i64 x155011_1]) ?_ 0 _ rfl; (with_reducible repeat (first | refine blk_drewN ?_ _ | refine blk_drew ?_ | refine blk_alloc ?_ _)); exact BK154.out)) : gb154 ≠ gb175)); have n7_ := Aside0.mk ((by rw [hg]; exact Nat.ne_of_gt (blk_lt (g := gb154) (o := .cells #[.int .i64 t159, .int .i64 t160, .int .i64 t161, .int .i64 t162, .int .i64 t163, .int .i64 t164, .int .i64 t165, .int .i64 t166, .int .i64 t167, .int .i64 t168, .int .i64 t169, .int .i64 t170] 24 (0, 0)) (by (with_reducible repeat (first | refine blk_drewN ?_ _ | refine blk_drew ?_ | refine blk_alloc ?_ _)); refine blk_put (cs := #[.int .i64 t159, .int .i64 t160, .int .i64 t161, .int .i64 t162, .int .i64 t163, .int .i64 t164, .int .i64 t165, .int .i64 t166, .int .i64 t167, .int .i64 t168, .int .i64 t169, .int .i64 x155011_1]) ?_ 11 _ rfl; (with_reducible repeat (first | refine blk_drewN ?_ _ | refine blk_drew ?_ | refine blk_alloc ?_ _)); refine blk_put (cs := #[.int .i64 t159, .int .i64 t160, .int .i64 t161, .int .i64 t162, .int .i64 t163, .int .i64 t164, .int .i64 t165, .int .i64 t166, .int .i64 t167, .int .i64 t168, .int .i64 x155010_1, .int .i64 x155011_1]) ?_ 10 _ rfl; (with_reducible repeat (first | refine blk_drewN ?_ _ | refine blk_drew ?_ | refine blk_alloc ?_ _)); refine blk_put (cs := #[.int .i64 t159, .int .i64 t160, .int .i64 t161, .int .i64 t162, .int .i64 t163, .int .i64 t164, .int .i64 t165, .int .i64 t166, .int .i64 t167, .int .i64 x155009_1, .int .i64 x155010_1, .int .i64 x155011_1]) ?_ 9 _ rfl; (with_reducible repeat (first | refine blk_drewN ?_ _ | refine blk_drew ?_ | refine blk_alloc ?_ _)); refine blk_put (cs := #[.int .i64 t159, .int .i64 t160, .int .i64 t161, .int .i64 t162, .int .i64 t163, .int .i64 t164, .int .i64 t165, .int .i64 t166, .int .i64 x155008_1, .int .i64 x155009_1, .int .i64 x155010_1, .int .i64 x155011_1]) ?_ 8 _ rfl; (with_reducible repeat (first | refine blk_drewN ?_ _ | refine blk_drew ?_ | refine blk_alloc ?_ _)); refine blk_put (cs := #[.int .i64 t159, .int .i64 t160, .int .i64 t161, .int .i64 t162, .int .i64 t163, .int .i64 t164, .int .i64 t165, .int .i64 x155007_1, .int .i64 x155008_1, .int .i64 x155009_1, .int .i64 x155010_1, .int .i64 x155011_1]) ?_ 7 _ rfl; (with_reducible repeat (first | refine blk_drewN ?_ _ | refine blk_drew ?_ | refine blk_alloc ?_ _)); refine blk_put (cs := #[.int .i64 t159, .int .i64 t160, .int .i64 t161, .int .i64 t162, .int .i64 t163, .int .i64 t164, .int .i64 x155006_1, .int .i64 x155007_1, .int .i64 x155008_1, .int .i64 x155009_1, .int .i64 x155010_1, .int .i64 x155011_1]) ?_ 6 _ rfl; (with_reducible repeat (first | refine blk_drewN ?_ _ | refine blk_drew ?_ | refine blk_alloc ?_ _)); refine blk_put (cs := #[.int .i64 t159, .int .i64 t160, .int .i64 t161, .int .i64 t162, .int .i64 t163, .int .i64 x155005_1, .int .i64 x155006_1, .int .i64 x155007_1, .int .i64 x155008_1, .int .i64 x155009_1, .int .i64 x155010_1, .int .i64 x155011_1]) ?_ 5 _ rfl; (with_reducible repeat (first | refine blk_drewN ?_ _ | refine blk_drew ?_ | refine blk_alloc ?_ _)); refine blk_put (cs := #[.int .i64 t159, .int .i64 t160, .int .i64 t161, .int .i64 t162, .int .i64 x155004_1, .int .i64 x155005_1, .int .i64 x155006_1, .int .i64 x155007_1, .int .i64 x155008_1, .int .i64 x155009_1, .int .i64 x155010_1, .int .i64 x155011_1]) ?_ 4 _ rfl; (with_reducible repeat (first | refine blk_drewN ?_ _ | refine blk_drew ?_ | refine blk_alloc ?_ _)); refine blk_put (cs := #[.int .i64 t159, .int .i64 t160, .int .i64 t161, .int .i64 x155003_1, .int .i64 x155004_1, .int .i64 x155005_1, .int .i64 x155006_1, .int .i64 x155007_1, .int .i64 x155008_1, .int .i64 x155009_1, .int .i64 x155010_1, .int .i64 x155011_1]) ?_ 3 _ rfl; (with_reducible repeat (first | refine blk_drewN ?_ _ | refine blk_drew ?_ | refine blk_alloc ?_ _)); refine blk_put (cs := #[.int .i64 t159, .int .i64 t160, .int .i64 x155002_1, .int .i64 x155003_1, .int .i64 x155004_1, .int .i64 x155005_1, .int .i64 x155006_1, .int .i64 x155007_1, .int .i64 x155008_1, .int .i64 x155009_1, .int .i64 x155010_1, .int .i64 x155011_1]) ?_ 2 _ rfl; (with_reducible repeat (first | refine blk_drewN ?_ _ | refine blk_drew ?_ | refine blk_alloc ?_ _)); refine blk_put (cs := #[.int .i64 t159, .int .i64 x155001_1, .int .i64 x155002_1, .int .i64 x155003_1, .int .i64 x155004_1, .int .i64 x155005_1, .int .i64 x155006_1, .int .i64 x155007_1, .int .i64 x155008_1, .int .i64 x155009_1, .int .i64 x155010_1, .int .i64 x155011_1]) ?_ 1 _ rfl; (with_reducible repeat (first | refine blk_drewN ?_ _ | refine blk_drew ?_ | refine blk_alloc ?_ _)); refine blk_put (cs := #[.int .i64 x155000_1, .int .i64 x155001_1, .int .i64 x155002_1, .int .i64 x155003_1, .int .i64 x155004_1, .int .i64 x155005_1, .int .i64 x155006_1, .int .i64 x155007_1, .int .i64 x155008_1, .int .i64 x155009_1, .int .i64 x155010_1, .int .i64 x155011_1]) ?_ 0 _ rfl; (with_reducible repeat (first | refine blk_drewN ?_ _ | refine blk_drew ?_ | refine blk_alloc ?_ _)); exact BK154.out)) : gb175 ≠ gb154)); have n8_ := Aside0.mk ((by rw [hg]; exact Nat.ne_of_lt (blk_lt (g := gb173) (o := .cells #[.int .i64 t159, .int .i64 t160, .int .i64 t161, .int .i64 t162, .int .i64 t163, .int .i64 t164, .int .i64 t165, .int .i64 t166, .int .i64 t167, .int .i64 t168, .int .i64 t169, .int .i64 t170] 24 (0, 0)) (by (with_reducible repeat (first | refine blk_drewN ?_ _ | refine blk_drew ?_ | refine blk_alloc ?_ _)); refine blk_far ?_ NB173_154.out _; (with_reducible repeat (first | refine blk_drewN ?_ _ | refine blk_drew ?_ | refine blk_alloc ?_ _)); refine blk_far ?_ NB173_154.out _; (with_reducible repeat (first | refine blk_drewN ?_ _ | refine blk_drew ?_ | refine blk_alloc ?_ _)); refine blk_far ?_ NB173_154.out _; (with_reducible repeat (first | refine blk_drewN ?_ _ | refine blk_drew ?_ | refine blk_alloc ?_ _)); refine blk_far ?_ NB173_154.out _; (with_reducible repeat (first | refine blk_drewN ?_ _ | refine blk_drew ?_ | refine blk_alloc ?_ _)); refine blk_far ?_ NB173_154.out _; (with_reducible repeat (first | refine blk_drewN ?_ _ | refine blk_drew ?_ | refine blk_alloc ?_ _)); refine blk_far ?_ NB173_154.out _; (with_reducible repeat (first | refine blk_drewN ?_ _ | refine blk_drew ?_ | refine blk_alloc ?_ _)); refine blk_far ?_ NB173_154.out _; (with_reducible repeat (first | refine blk_drewN ?_ _ | refine blk_drew ?_ | refine blk_alloc ?_ _)); refine blk_far ?_ NB173_154.out _; (with_reducible repeat (first | refine blk_drewN ?_ _ | refine blk_drew ?_ | refine blk_alloc ?_ _)); refine blk_far ?_ NB173_154.out _; (with_reducible repeat (first | refine blk_drewN ?_ _ | refine blk_drew ?_ | refine blk_alloc ?_ _)); refine blk_far ?_ NB173_154.out _; (with_reducible repeat (first | refine blk_drewN ?_ _ | refine blk_drew ?_ | refine blk_alloc ?_ _)); refine blk_far ?_ NB173_154.out _; (with_reducible repeat (first | refine blk_drewN ?_ _ | refine blk_drew ?_ | refine blk_alloc ?_ _)); refine blk_far ?_ NB173_154.out _; (with_reducible repeat (first | refine blk_drewN ?_ _ | refine blk_drew ?_ | refine blk_alloc ?_ _)); exact BK173.out)) : gb173 ≠ gb175)); have n9_ := Aside0.mk ((by rw [hg]; exact Nat.ne_of_gt (blk_lt (g := gb173) (o := .cells #[.int .i64 t159, .int .i64 t160, .int .i64 t161, .int .i64 t162, .int .i64 t163, .int .i64 t164, .int .i64 t165, .int .i64 t166, .int .i64 t167, .int .i64 t168, .int .i64 t169, .int .i64 t170] 24 (0, 0)) (by (with_reducible repeat (first | refine blk_drewN ?_ _ | refine blk_drew ?_ | refine blk_alloc ?_ _)); refine blk_far ?_ NB173_154.out _; (with_reducible repeat (first | refine blk_drewN ?_ _ | refine blk_drew ?_ | refine blk_alloc ?_ _)); refine blk_far ?_ NB173_154.out _; (with_reducible repeat (first | refine blk_drewN ?_ _ | refine blk_drew ?_ | refine blk_alloc ?_ _)); refine blk_far ?_ NB173_154.out _; (with_reducible repeat (first | refine blk_drewN ?_ _ | refine blk_drew ?_ | refine blk_alloc ?_ _)); refine blk_far ?_ NB173_154.out _; (with_reducible repeat (first | refine blk_drewN ?_ _ | refine blk_drew ?_ | refine blk_alloc ?_ _)); refine blk_far ?_ NB173_154.out _; (with_reducible repeat (first | refine blk_drewN ?_ _ | refine blk_drew ?_ | refine blk_alloc ?_ _)); refine blk_far ?_ NB173_154.out _; (with_reducible repeat (first | refine blk_drewN ?_ _ | refine blk_drew ?_ | refine blk_alloc ?_ _)); refine blk_far ?_ NB173_154.out _; (with_reducible repeat (first | refine blk_drewN ?_ _ | refine blk_drew ?_ | refine blk_alloc ?_ _)); refine blk_far ?_ NB173_154.out _; (with_reducible repeat (first | refine blk_drewN ?_ _ | refine blk_drew ?_ | refine blk_alloc ?_ _)); refine blk_far ?_ NB173_154.out _; (with_reducible repeat (first | refine blk_drewN ?_ _ | refine blk_drew ?_ | refine blk_alloc ?_ _)); refine blk_far ?_ NB173_154.out _; (with_reducible repeat (first | refine blk_drewN ?_ _ | refine blk_drew ?_ | refine blk_alloc ?_ _)); refine blk_far ?_ NB173_154.out _; (with_reducible repeat (first | refine blk_drewN ?_ _ | refine blk_drew ?_ | refine blk_alloc ?_ _)); refine blk_far ?_ NB173_154.out _; (with_reducible repeat (first | refine blk_drewN ?_ _ | refine blk_drew ?_ | refine blk_alloc ?_ _)); exact BK173.out)) : gb175 ≠ gb173)); clear BK154; clear BK173; clear HB; have BK154 := n0_; have BK173 := n1_; have HB := n2_; have BK175 := n3_; have GW175 := n4_; have GE175 := n5_; have NB154_175 := n6_; have NB175_154 := n7_; have NB173_175 := n8_; have NB175_173 := n9_; clear n0_ n1_ n2_ n3_ n4_ n5_ n6_ n7_ n8_ n9_; clear hb hbox hg))
            go_loopg [9] kj13 (fun kq v9 w' => ∃ (x9_3 : Int) (x176000_3 : Int) (x176001_3 : Int), v9 = .int .i64 x9_3 ∧ Aside0 (arrearslaw8_LedgerBalanced.l1 kq l0 x4_1 x9_3 t159 t160 t161 t162 t163 t164 t165 t166 t167 t168 t169 t170 x176000_3 x176001_3 = some r) ∧ Aside0 (kq ≤ kj13) ∧ Aside0 (w'.heap[gb154]? = some (.cells #[.int .i64 t159, .int .i64 t160, .int .i64 t161, .int .i64 t162, .int .i64 t163, .int .i64 t164, .int .i64 t165, .int .i64 t166, .int .i64 t167, .int .i64 t168, .int .i64 t169, .int .i64 t170] 24 (0, 0))) ∧ Aside0 (w'.heap[gb173]? = some (.cells #[.int .i64 t159, .int .i64 t160, .int .i64 t161, .int .i64 t162, .int .i64 t163, .int .i64 t164, .int .i64 t165, .int .i64 t166, .int .i64 t167, .int .i64 t168, .int .i64 t169, .int .i64 t170] 24 (0, 0))) ∧ Aside0 (w'.heap[gb175]? = some (.cells #[.int .i64 x176000_3, .int .i64 x176001_3] 51 (0, 0))) ∧ Aside0 (Below w.heap.size w w'))
            case atStart => exact ⟨(0), (0), (0), (by first | rfl | (simp; done) | (simp [*]; done)), H', ⟨Nat.le_refl _⟩, ⟨by (with_reducible repeat (first | refine blk_drewN ?_ _ | refine blk_drew ?_ | refine blk_alloc ?_ _)); exact BK154.out⟩, ⟨by (with_reducible repeat (first | refine blk_drewN ?_ _ | refine blk_drew ?_ | refine blk_alloc ?_ _)); exact BK173.out⟩, ⟨by (with_reducible repeat (first | refine blk_drewN ?_ _ | refine blk_drew ?_ | refine blk_alloc ?_ _)); exact BK175.out⟩, ⟨by repeat (first | (with_reducible first | exact HB.out | apply below_alloc | apply pw_below_drewN | apply below_drew1 | refine below_set ?_ GE154.out | refine below_set ?_ GE173.out | refine below_set ?_ GE175.out) | exact HB.out)⟩⟩
            case round =>
             clear H'
             try clear c1
             try clear p1
             try clear q1
             try clear hx1
             try clear c2
             try clear p2
             try clear c3
             try clear c6
             try clear c6b0
             try clear p6
             try clear c7
             try clear c7b0
             try clear c8
             try clear c8b0
             try clear c8b1
             try clear c10
             try clear c10b0
             try clear c11
             try clear c11b0
             try clear c15
             try clear p15
             try clear q15
             try clear hx15
             try clear c17
             try clear c20
             try clear c22
             try clear c22b0
             try clear c22b1
             try clear c24
             try clear c28
             try clear c29
             try clear hcz16_0
             try clear hcz16_1
             try clear hcz16_10
             try clear hcz16_11
             try clear hcz16_2
             try clear hcz16_3
             try clear hcz16_4
             try clear hcz16_5
             try clear hcz16_6
             try clear hcz16_7
             try clear hcz16_8
             try clear hcz16_9
             try clear hcz21_0
             try clear hcz21_1
             try clear hcz21_10
             try clear hcz21_11
             try clear hcz21_2
             try clear hcz21_3
             try clear hcz21_4
             try clear hcz21_5
             try clear hcz21_6
             try clear hcz21_7
             try clear hcz21_8
             try clear hcz21_9
             try clear hcz25_0
             try clear hcz25_1
             try clear hcz25_10
             try clear hcz25_11
             try clear hcz25_2
             try clear hcz25_3
             try clear hcz25_4
             try clear hcz25_5
             try clear hcz25_6
             try clear hcz25_7
             try clear hcz25_8
             try clear hcz25_9
             try clear hcz26_0
             try clear hcz26_1
             try clear hcz26_10
             try clear hcz26_11
             try clear hcz26_2
             try clear hcz26_3
             try clear hcz26_4
             try clear hcz26_5
             try clear hcz26_6
             try clear hcz26_7
             try clear hcz26_8
             try clear hcz26_9
             try clear hcz30_0
             try clear hcz30_1
             try clear hcz30_10
             try clear hcz30_11
             try clear hcz30_2
             try clear hcz30_3
             try clear hcz30_4
             try clear hcz30_5
             try clear hcz30_6
             try clear hcz30_7
             try clear hcz30_8
             try clear hcz30_9
             try clear hcz31_0
             try clear hcz31_1
             try clear hcz31_10
             try clear hcz31_11
             try clear hcz31_2
             try clear hcz31_3
             try clear hcz31_4
             try clear hcz31_5
             try clear hcz31_6
             try clear hcz31_7
             try clear hcz31_8
             try clear hcz31_9
             try clear hfz16_0
             try clear hfz16_1
             try clear hfz16_10
             try clear hfz16_11
             try clear hfz16_2
             try clear hfz16_3
             try clear hfz16_4
             try clear hfz16_5
             try clear hfz16_6
             try clear hfz16_7
             try clear hfz16_8
             try clear hfz16_9
             try clear hfz21_0
             try clear hfz21_1
             try clear hfz21_10
             try clear hfz21_11
             try clear hfz21_2
             try clear hfz21_3
             try clear hfz21_4
             try clear hfz21_5
             try clear hfz21_6
             try clear hfz21_7
             try clear hfz21_8
             try clear hfz21_9
             try clear hfz25_0
             try clear hfz25_1
             try clear hfz25_10
             try clear hfz25_11
             try clear hfz25_2
             try clear hfz25_3
             try clear hfz25_4
             try clear hfz25_5
             try clear hfz25_6
             try clear hfz25_7
             try clear hfz25_8
             try clear hfz25_9
             try clear hfz26_0
             try clear hfz26_1
             try clear hfz26_10
             try clear hfz26_11
             try clear hfz26_2
             try clear hfz26_3
             try clear hfz26_4
             try clear hfz26_5
             try clear hfz26_6
             try clear hfz26_7
             try clear hfz26_8
             try clear hfz26_9
             try clear hfz30_0
             try clear hfz30_1
             try clear hfz30_10
             try clear hfz30_11
             try clear hfz30_2
             try clear hfz30_3
             try clear hfz30_4
             try clear hfz30_5
             try clear hfz30_6
             try clear hfz30_7
             try clear hfz30_8
             try clear hfz30_9
             try clear hfz31_0
             try clear hfz31_1
             try clear hfz31_10
             try clear hfz31_11
             try clear hfz31_2
             try clear hfz31_3
             try clear hfz31_4
             try clear hfz31_5
             try clear hfz31_6
             try clear hfz31_7
             try clear hfz31_8
             try clear hfz31_9
             try clear hx154_0
             try clear hx155_0
             try clear p1
             try clear p15
             try clear p154
             try clear p155
             try clear p2
             try clear p6
             try clear q1
             try clear q15
             try clear q154
             try clear q155
             obtain ⟨x9_3, x176000_3, x176001_3, rfl, HA, HK3, BK154, BK173, BK175, HB⟩ := hrel
             cases gk with
             | zero => exact absurd HA.out (by simp [arrearslaw8_LedgerBalanced.l1])
             | succ k3 =>
              have H := HA.out
              clear HA
              simp only [arrearslaw8_LedgerBalanced.l1] at H
              by_cases c33 : x9_3 < 12
              ·
               rw [if_pos c33] at H
               have c33b0 : decide (x9_3 < 12) = true := decide_eq_true c33
               clear c33
               by_cases c34 : 0 ≤ x9_3
               ·
                rw [if_pos c34] at H
                have c34b0 : decide (0 ≤ x9_3) = true := decide_eq_true c34
                clear c34
                replace H := Option.bind_eq_some_iff.mp H
                obtain ⟨⟨t174, t175⟩, A350, H⟩ := H
                replace H : (arrearslaw8_LedgerBalanced.l1 k3 l0 x4_1 (wrap64 (x9_3 + 1)) t159 t160 t161 t162 t163 t164 t165 t166 t167 t168 t169 t170 t174 t175) = some r := H
                have A35 := Aside0.mk A350
                clear A350
                have H' := Aside0.mk H
                clear H
                try go_wp2
                have n0_ := Aside0.mk (blk_drew BK154.out)
                have n1_ := Aside0.mk (blk_drew BK173.out)
                have n2_ := Aside0.mk (blk_drew BK175.out)
                have n3_ := Aside0.mk (below_drew1 HB.out)
                clear BK154
                clear BK173
                clear BK175
                clear HB
                have BK154 := n0_
                have BK173 := n1_
                have BK175 := n2_
                have HB := n3_
                clear n0_ n1_ n2_ n3_
                have p173 : 0 ≤ (x9_3 : Int) := of_decide_eq_true (by first | (with_reducible assumption) | assumption)
                have q173 : (x9_3 : Int) < 12 := of_decide_eq_true (by first | (with_reducible assumption) | assumption)
                have P173 := Aside0.mk p173
                have Q173 := Aside0.mk q173
                have t173 := eq_true (show (x9_3 : Int).toNat < 12 by omega)
                replace p173 := eq_true p173
                replace q173 := eq_true q173
                refine start_ (n := 7) (S := fun w' => w'.cell? ⟨gb175, 0, none⟩ = some (.int .i64 x176000_3) ∧ w'.cell? ⟨gb175, 1, none⟩ = some (.int .i64 x176001_3) ∧ w'.cell? ⟨gb154, (x9_3 : Int).toNat, none⟩ = some (.int .i64 (selI [t159, t160, t161, t162, t163, t164, t165, t166, t167, t168, t169, t170] x9_3))) (ds := [6]) #[false, false, false, false, false, false, false] (by kernel_rfl) rfl rfl ⟨(blk_cell BK175.out 0).trans rfl, (blk_cell BK175.out 1).trans rfl, (blk_cell BK154.out ((x9_3 : Int).toNat)).trans (selI_at .i64 [t159, t160, t161, t162, t163, t164, t165, t166, t167, t168, t169, t170] x9_3 P173.out Q173.out)⟩ (fun hHeld => ?_)
                generalize wr.drew = w36 at BK154 BK173 BK175 HB hHeld ⊢
                refine pure_ (i := 1) (N := some 54) (v := ?_) (a' := ?_) #[false, true, false, false, false, false, false] rfl rfl (by kernel_rfl) (fun _ _ _ h => h) (Or.inl ⟨by rfl, ?_⟩) ?_ ?_
                rotate_left
                ·
                 intro w'
                 go_simp
                 with_reducible rfl
                rotate_left
                ·
                 simp only [Act.put, List.setIfInBounds_toArray, List.set_cons_zero, List.set_cons_succ, i64_w, i32_w]
                 rfl
                refine pure_ (i := 2) (N := some 55) (v := ?_) (a' := ?_) #[false, true, true, false, false, false, false] rfl rfl (by kernel_rfl) (fun _ _ _ h => h) (Or.inl ⟨by rfl, ?_⟩) ?_ ?_
                rotate_left
                ·
                 intro w'
                 go_simp
                 with_reducible rfl
                rotate_left
                ·
                 simp only [Act.put, List.setIfInBounds_toArray, List.set_cons_zero, List.set_cons_succ, i64_w, i32_w]
                 rfl
                refine pure_ (i := 3) (N := some 56) (v := ?_) (a' := ?_) #[false, true, true, true, false, false, false] rfl rfl (by kernel_rfl) (fun _ _ _ h => h) (Or.inl ⟨by rfl, ?_⟩) ?_ ?_
                rotate_left
                ·
                 intro w'
                 go_simp
                 with_reducible rfl
                rotate_left
                ·
                 simp only [Act.put, List.setIfInBounds_toArray, List.set_cons_zero, List.set_cons_succ, i64_w, i32_w]
                 rfl
                refine take_ (i := 0) (N := some 53) (v := ?_) (a' := ?_) #[true, true, true, true, false, false, false] rfl rfl (by kernel_rfl) (fun _ _ _ h => h) (Or.inl ⟨by rfl, ?_⟩) hHeld ?_ ?_
                rotate_left
                ·
                 rintro w' ⟨s0, s1, s2⟩
                 go_simp
                 with_reducible rfl
                rotate_left
                ·
                 simp only [Act.put, List.setIfInBounds_toArray, List.set_cons_zero, List.set_cons_succ, i64_w, i32_w]
                 rfl
                refine take_ (i := 4) (N := some 57) (v := ?_) (a' := ?_) #[true, true, true, true, true, false, false] rfl rfl (by kernel_rfl) (fun _ _ _ h => h) (Or.inl ⟨by rfl, ?_⟩) hHeld ?_ ?_
                rotate_left
                ·
                 rintro w' ⟨s0, s1, s2⟩
                 go_simp
                 with_reducible rfl
                rotate_left
                ·
                 simp only [Act.put, List.setIfInBounds_toArray, List.set_cons_zero, List.set_cons_succ, i64_w, i32_w]
                 rfl
                refine one_ (i := 5) (N := some 58) #[true, true, true, true, true, true, false] rfl rfl (by kernel_rfl) (by decide) (fun K hK => ?_)
                refine goes_ Tryd.func28 (by kernel_rfl) rfl #[.agg #[.int .i64 x176000_3, .int .i64 x176001_3], .int .i64 (selI [t159, t160, t161, t162, t163, t164, t165, t166, t167, t168, t169, t170] x9_3)] (by rfl) rfl rfl (by (try simp only [List.map_toArray, List.map_cons, List.map_nil]); first | done | rfl | (simp only [List.length_drop, List.length_take]; rfl)) ?_
                with_reducible refine (arrearslaw8_plus.calls x176000_3 x176001_3 (selI [t159, t160, t161, t162, t163, t164, t165, t166, t167, t168, t169, t170] x9_3) t174 t175 _ A35.out).mono ?_
                rintro e w37 ⟨rfl, hb⟩
                refine ⟨_, rfl, ?_⟩
                have n0_ := Aside0.mk (blk_below (g := gb154) (o := .cells #[.int .i64 t159, .int .i64 t160, .int .i64 t161, .int .i64 t162, .int .i64 t163, .int .i64 t164, .int .i64 t165, .int .i64 t166, .int .i64 t167, .int .i64 t168, .int .i64 t169, .int .i64 t170] 24 (0, 0)) (by (with_reducible repeat (first | refine blk_drewN ?_ _ | refine blk_drew ?_ | refine blk_alloc ?_ _)); exact BK154.out) hb)
                have n1_ := Aside0.mk (blk_below (g := gb173) (o := .cells #[.int .i64 t159, .int .i64 t160, .int .i64 t161, .int .i64 t162, .int .i64 t163, .int .i64 t164, .int .i64 t165, .int .i64 t166, .int .i64 t167, .int .i64 t168, .int .i64 t169, .int .i64 t170] 24 (0, 0)) (by (with_reducible repeat (first | refine blk_drewN ?_ _ | refine blk_drew ?_ | refine blk_alloc ?_ _)); exact BK173.out) hb)
                have n2_ := Aside0.mk (blk_below (g := gb175) (o := .cells #[.int .i64 x176000_3, .int .i64 x176001_3] 51 (0, 0)) (by (with_reducible repeat (first | refine blk_drewN ?_ _ | refine blk_drew ?_ | refine blk_alloc ?_ _)); exact BK175.out) hb)
                have n3_ := Aside0.mk (below_step (by repeat (first | (with_reducible first | exact HB.out | apply below_alloc | apply pw_below_drewN | apply below_drew1 | refine below_set ?_ GE154.out | refine below_set ?_ GE173.out | refine below_set ?_ GE175.out) | exact HB.out)) hb)
                clear BK154
                clear BK173
                clear BK175
                clear HB
                have BK154 := n0_
                have BK173 := n1_
                have BK175 := n2_
                have HB := n3_
                clear n0_ n1_ n2_ n3_
                (try clear hb)
                (try clear hb2)
                (try clear hk)
                (try clear hi)
                refine hK.out _ _ ⟨(blk_cell BK175.out 0).trans rfl, (blk_cell BK175.out 1).trans rfl, (blk_cell BK154.out ((x9_3 : Int).toNat)).trans (selI_at .i64 [t159, t160, t161, t162, t163, t164, t165, t166, t167, t168, t169, t170] x9_3 P173.out Q173.out)⟩ (fun hHeld => ?_)
                clear hK K
                refine norm_ (a' := ?_) ?_ ?_
                rotate_left
                ·
                 show Act.put _ (some 58) _ = _
                 simp only [Act.put, List.setIfInBounds_toArray, List.set_cons_zero, List.set_cons_succ, i64_w, i32_w]
                 rfl
                refine last_ (i := 6) (N := none) #[true, true, true, true, true, true, true] rfl rfl (by kernel_rfl) (by decide) (fun K hK => ?_)
                have hs38 : w37.cell? ⟨gb175, 0, none⟩ = some (.int .i64 x176000_3) := (blk_cell BK175.out 0).trans rfl
                have hfs38 := blk_frozen BK175.out 0
                have hns38_0 := NB154_175.out
                have hns38_1 := NB173_175.out
                have hms38_0 := NB175_154.out
                have hms38_1 := NB175_173.out
                have hs39 : w37.cell? ⟨gb175, 1, none⟩ = some (.int .i64 x176001_3) := (blk_cell BK175.out 1).trans rfl
                have hfs39 := blk_frozen BK175.out 1
                have hns39_0 := NB154_175.out
                have hns39_1 := NB173_175.out
                have hms39_0 := NB175_154.out
                have hms39_1 := NB175_173.out
                refine skip_ (w1 := ?_) (by rfl) rfl ?_ ?_
                rotate_left
                ·
                 go_simp
                 rfl
                refine hK.out _ _ ?_
                clear hK K
                refine done_ (by kernel_rfl) ?_
                try go_wp2
                go_roundg k3
                case measure => have := HK1.out; have := HJ13.out; have := HK3.out; omega
                case rel => exact ⟨(wrap64 (x9_3 + 1)), (t174), (t175), (by first | rfl | (simp; done) | (simp [*]; done)), H', ⟨by have := HK1.out; have := HJ13.out; have := HK3.out; omega⟩, ⟨by (with_reducible repeat (first | refine blk_drewN ?_ _ | refine blk_drew ?_ | refine blk_alloc ?_ _)); refine blk_far ?_ NB154_175.out _; (with_reducible repeat (first | refine blk_drewN ?_ _ | refine blk_drew ?_ | refine blk_alloc ?_ _)); refine blk_far ?_ NB154_175.out _; (with_reducible repeat (first | refine blk_drewN ?_ _ | refine blk_drew ?_ | refine blk_alloc ?_ _)); exact BK154.out⟩, ⟨by (with_reducible repeat (first | refine blk_drewN ?_ _ | refine blk_drew ?_ | refine blk_alloc ?_ _)); refine blk_far ?_ NB173_175.out _; (with_reducible repeat (first | refine blk_drewN ?_ _ | refine blk_drew ?_ | refine blk_alloc ?_ _)); refine blk_far ?_ NB173_175.out _; (with_reducible repeat (first | refine blk_drewN ?_ _ | refine blk_drew ?_ | refine blk_alloc ?_ _)); exact BK173.out⟩, ⟨by (with_reducible repeat (first | refine blk_drewN ?_ _ | refine blk_drew ?_ | refine blk_alloc ?_ _)); refine blk_put (cs := #[.int .i64 t174, .int .i64 x176001_3]) ?_ 1 _ rfl; (with_reducible repeat (first | refine blk_drewN ?_ _ | refine blk_drew ?_ | refine blk_alloc ?_ _)); refine blk_put (cs := #[.int .i64 x176000_3, .int .i64 x176001_3]) ?_ 0 _ rfl; (with_reducible repeat (first | refine blk_drewN ?_ _ | refine blk_drew ?_ | refine blk_alloc ?_ _)); exact BK175.out⟩, ⟨by repeat (first | (with_reducible first | exact HB.out | apply below_alloc | apply pw_below_drewN | apply below_drew1 | refine below_set ?_ GE154.out | refine below_set ?_ GE173.out | refine below_set ?_ GE175.out) | exact HB.out)⟩⟩
               ·
                rw [if_neg c34] at H
                exact absurd H (by simp)
              ·
               rw [if_neg c33] at H
               have c33b0 : decide (x9_3 < 12) = false := decide_eq_false c33
               clear c33
               replace H := Option.bind_eq_some_iff.mp H
               obtain ⟨⟨t176, t177, t178⟩, A400, H⟩ := H
               replace H : ((arrearslaw8_nothing.f x176000_3 x176001_3).bind fun t179 => (if t179 = true then ((arrearslaw8_ownSide.f k3 t159 t160 t161 t162 t163 t164 t165 t166 t167 t168 t169 t170).bind fun t180 => (if t180 = true then (if t178 = true then (if t176 = t177 then (arrearslaw8_LedgerBalanced.l0 k3 l0 (wrap64 (x4_1 + 1)) t159 t160 t161 t162 t163 t164 t165 t166 t167 t168 t169 t170) else (none)) else (if t176 = 0 then (if t177 = 0 then (arrearslaw8_LedgerBalanced.l0 k3 l0 (wrap64 (x4_1 + 1)) t159 t160 t161 t162 t163 t164 t165 t166 t167 t168 t169 t170) else (none)) else (none))) else (none))) else (none))) = some r := H
               have A40 := Aside0.mk A400
               clear A400
               replace H := Option.bind_eq_some_iff.mp H
               obtain ⟨t179, A410, H⟩ := H
               replace H : (if t179 = true then ((arrearslaw8_ownSide.f k3 t159 t160 t161 t162 t163 t164 t165 t166 t167 t168 t169 t170).bind fun t180 => (if t180 = true then (if t178 = true then (if t176 = t177 then (arrearslaw8_LedgerBalanced.l0 k3 l0 (wrap64 (x4_1 + 1)) t159 t160 t161 t162 t163 t164 t165 t166 t167 t168 t169 t170) else (none)) else (if t176 = 0 then (if t177 = 0 then (arrearslaw8_LedgerBalanced.l0 k3 l0 (wrap64 (x4_1 + 1)) t159 t160 t161 t162 t163 t164 t165 t166 t167 t168 t169 t170) else (none)) else (none))) else (none))) else (none)) = some r := H
               have A41 := Aside0.mk A410
               clear A410
               by_cases c42 : t179 = true
               ·
                subst c42
                have H1 : ((arrearslaw8_ownSide.f k3 t159 t160 t161 t162 t163 t164 t165 t166 t167 t168 t169 t170).bind fun t180 => (if t180 = true then (if t178 = true then (if t176 = t177 then (arrearslaw8_LedgerBalanced.l0 k3 l0 (wrap64 (x4_1 + 1)) t159 t160 t161 t162 t163 t164 t165 t166 t167 t168 t169 t170) else (none)) else (if t176 = 0 then (if t177 = 0 then (arrearslaw8_LedgerBalanced.l0 k3 l0 (wrap64 (x4_1 + 1)) t159 t160 t161 t162 t163 t164 t165 t166 t167 t168 t169 t170) else (none)) else (none))) else (none))) = some r := by rw [if_pos rfl] at H; exact H
                clear H
                have H := H1
                clear H1
                replace H := Option.bind_eq_some_iff.mp H
                obtain ⟨t180, A430, H⟩ := H
                replace H : (if t180 = true then (if t178 = true then (if t176 = t177 then (arrearslaw8_LedgerBalanced.l0 k3 l0 (wrap64 (x4_1 + 1)) t159 t160 t161 t162 t163 t164 t165 t166 t167 t168 t169 t170) else (none)) else (if t176 = 0 then (if t177 = 0 then (arrearslaw8_LedgerBalanced.l0 k3 l0 (wrap64 (x4_1 + 1)) t159 t160 t161 t162 t163 t164 t165 t166 t167 t168 t169 t170) else (none)) else (none))) else (none)) = some r := H
                have A43 := Aside0.mk A430
                clear A430
                by_cases c44 : t180 = true
                ·
                 subst c44
                 have H1 : (if t178 = true then (if t176 = t177 then (arrearslaw8_LedgerBalanced.l0 k3 l0 (wrap64 (x4_1 + 1)) t159 t160 t161 t162 t163 t164 t165 t166 t167 t168 t169 t170) else (none)) else (if t176 = 0 then (if t177 = 0 then (arrearslaw8_LedgerBalanced.l0 k3 l0 (wrap64 (x4_1 + 1)) t159 t160 t161 t162 t163 t164 t165 t166 t167 t168 t169 t170) else (none)) else (none))) = some r := by rw [if_pos rfl] at H; exact H
                 clear H
                 have H := H1
                 clear H1
                 by_cases c45 : t178 = true
                 ·
                  subst c45
                  have H1 : (if t176 = t177 then (arrearslaw8_LedgerBalanced.l0 k3 l0 (wrap64 (x4_1 + 1)) t159 t160 t161 t162 t163 t164 t165 t166 t167 t168 t169 t170) else (none)) = some r := by rw [if_pos rfl] at H; exact H
                  clear H
                  have H := H1
                  clear H1
                  by_cases c46 : t176 = t177
                  ·
                   rw [if_pos c46] at H
                   have c46b0 : (t176 == t177) = true := beq_iff_eq.mpr c46
                   have c46b1 : (t176 != t177) = false := bne_eq_false_iff_eq.mpr c46
                   clear c46
                   have H' := Aside0.mk H
                   clear H
                   have hnb47 := NB154_173.out
                   have hnc47 := NB173_154.out
                   have hnb48 := NB154_175.out
                   have hnc48 := NB175_154.out
                   have hcz49_0 : wr.cell? ⟨gb154, 0, none⟩ = some (.int .i64 t159) := (blk_cell BK154.out 0).trans rfl
                   have hcz49_1 : wr.cell? ⟨gb154, 1, none⟩ = some (.int .i64 t160) := (blk_cell BK154.out 1).trans rfl
                   have hcz49_2 : wr.cell? ⟨gb154, 2, none⟩ = some (.int .i64 t161) := (blk_cell BK154.out 2).trans rfl
                   have hcz49_3 : wr.cell? ⟨gb154, 3, none⟩ = some (.int .i64 t162) := (blk_cell BK154.out 3).trans rfl
                   have hcz49_4 : wr.cell? ⟨gb154, 4, none⟩ = some (.int .i64 t163) := (blk_cell BK154.out 4).trans rfl
                   have hcz49_5 : wr.cell? ⟨gb154, 5, none⟩ = some (.int .i64 t164) := (blk_cell BK154.out 5).trans rfl
                   have hcz49_6 : wr.cell? ⟨gb154, 6, none⟩ = some (.int .i64 t165) := (blk_cell BK154.out 6).trans rfl
                   have hcz49_7 : wr.cell? ⟨gb154, 7, none⟩ = some (.int .i64 t166) := (blk_cell BK154.out 7).trans rfl
                   have hcz49_8 : wr.cell? ⟨gb154, 8, none⟩ = some (.int .i64 t167) := (blk_cell BK154.out 8).trans rfl
                   have hcz49_9 : wr.cell? ⟨gb154, 9, none⟩ = some (.int .i64 t168) := (blk_cell BK154.out 9).trans rfl
                   have hcz49_10 : wr.cell? ⟨gb154, 10, none⟩ = some (.int .i64 t169) := (blk_cell BK154.out 10).trans rfl
                   have hcz49_11 : wr.cell? ⟨gb154, 11, none⟩ = some (.int .i64 t170) := (blk_cell BK154.out 11).trans rfl
                   have hfz49_0 := blk_frozen BK154.out 0
                   have hfz49_1 := blk_frozen BK154.out 1
                   have hfz49_2 := blk_frozen BK154.out 2
                   have hfz49_3 := blk_frozen BK154.out 3
                   have hfz49_4 := blk_frozen BK154.out 4
                   have hfz49_5 := blk_frozen BK154.out 5
                   have hfz49_6 := blk_frozen BK154.out 6
                   have hfz49_7 := blk_frozen BK154.out 7
                   have hfz49_8 := blk_frozen BK154.out 8
                   have hfz49_9 := blk_frozen BK154.out 9
                   have hfz49_10 := blk_frozen BK154.out 10
                   have hfz49_11 := blk_frozen BK154.out 11
                   go_wp2_with (first | ((with_reducible refine gate_callee (f := 27) rfl ?_); refine goesL_ (some 61) rfl rfl Tryd.func27 (by kernel_rfl) rfl #[.agg #[.int .i64 t159, .int .i64 t160, .int .i64 t161, .int .i64 t162, .int .i64 t163, .int .i64 t164, .int .i64 t165, .int .i64 t166, .int .i64 t167, .int .i64 t168, .int .i64 t169, .int .i64 t170]] rfl (by (try simp only [List.map_toArray, List.map_cons, List.map_nil]); first | done | rfl | (simp only [List.length_drop, List.length_take]; rfl)) ?_; (with_reducible refine (ledger_Trial.calls k3 t159 t160 t161 t162 t163 t164 t165 t166 t167 t168 t169 t170 t176 t177 true _ A40.out).mono ?_); rintro e w50 ⟨rfl, hb⟩; refine ⟨_, rfl, ?_⟩; have n0_ := Aside0.mk (blk_below (g := gb154) (o := .cells #[.int .i64 t159, .int .i64 t160, .int .i64 t161, .int .i64 t162, .int .i64 t163, .int .i64 t164, .int .i64 t165, .int .i64 t166, .int .i64 t167, .int .i64 t168, .int .i64 t169, .int .i64 t170] 24 (0, 0)) (by (with_reducible repeat (first | refine blk_drewN ?_ _ | refine blk_drew ?_ | refine blk_alloc ?_ _)); exact BK154.out) hb); have n1_ := Aside0.mk (blk_below (g := gb173) (o := .cells #[.int .i64 t159, .int .i64 t160, .int .i64 t161, .int .i64 t162, .int .i64 t163, .int .i64 t164, .int .i64 t165, .int .i64 t166, .int .i64 t167, .int .i64 t168, .int .i64 t169, .int .i64 t170] 24 (0, 0)) (by (with_reducible repeat (first | refine blk_drewN ?_ _ | refine blk_drew ?_ | refine blk_alloc ?_ _)); exact BK173.out) hb); have n2_ := Aside0.mk (blk_below (g := gb175) (o := .cells #[.int .i64 x176000_3, .int .i64 x176001_3] 51 (0, 0)) (by (with_reducible repeat (first | refine blk_drewN ?_ _ | refine blk_drew ?_ | refine blk_alloc ?_ _)); exact BK175.out) hb); have n3_ := Aside0.mk (below_step (by repeat (first | (with_reducible first | exact HB.out | apply below_alloc | apply pw_below_drewN | apply below_drew1 | refine below_set ?_ GE154.out | refine below_set ?_ GE173.out | refine below_set ?_ GE175.out) | exact HB.out)) hb); clear BK154; clear BK173; clear BK175; clear HB; have BK154 := n0_; have BK173 := n1_; have BK175 := n2_; have HB := n3_; clear n0_ n1_ n2_ n3_; (try clear hb); (try clear hb2); (try clear hk); (try clear hi); have hnb51 := NB175_173.out; have hnc51 := NB173_175.out; have hcz52_0 : w50.cell? ⟨gb175, 0, none⟩ = some (.int .i64 x176000_3) := (blk_cell BK175.out 0).trans rfl; have hcz52_1 : w50.cell? ⟨gb175, 1, none⟩ = some (.int .i64 x176001_3) := (blk_cell BK175.out 1).trans rfl; have hfz52_0 := blk_frozen BK175.out 0; have hfz52_1 := blk_frozen BK175.out 1) | ((with_reducible refine gate_callee (f := 29) rfl ?_); refine goesL_ (some 66) rfl rfl Tryd.func29 (by kernel_rfl) rfl #[.agg #[.int .i64 x176000_3, .int .i64 x176001_3]] rfl (by (try simp only [List.map_toArray, List.map_cons, List.map_nil]); first | done | rfl | (simp only [List.length_drop, List.length_take]; rfl)) ?_; (with_reducible refine (arrearslaw8_nothing.calls x176000_3 x176001_3 true _ A41.out).mono ?_); rintro e w53 ⟨rfl, hb⟩; refine ⟨_, rfl, ?_⟩; have n0_ := Aside0.mk (blk_below (g := gb154) (o := .cells #[.int .i64 t159, .int .i64 t160, .int .i64 t161, .int .i64 t162, .int .i64 t163, .int .i64 t164, .int .i64 t165, .int .i64 t166, .int .i64 t167, .int .i64 t168, .int .i64 t169, .int .i64 t170] 24 (0, 0)) (by (with_reducible repeat (first | refine blk_drewN ?_ _ | refine blk_drew ?_ | refine blk_alloc ?_ _)); exact BK154.out) hb); have n1_ := Aside0.mk (blk_below (g := gb173) (o := .cells #[.int .i64 t159, .int .i64 t160, .int .i64 t161, .int .i64 t162, .int .i64 t163, .int .i64 t164, .int .i64 t165, .int .i64 t166, .int .i64 t167, .int .i64 t168, .int .i64 t169, .int .i64 t170] 24 (0, 0)) (by (with_reducible repeat (first | refine blk_drewN ?_ _ | refine blk_drew ?_ | refine blk_alloc ?_ _)); exact BK173.out) hb); have n2_ := Aside0.mk (blk_below (g := gb175) (o := .cells #[.int .i64 x176000_3, .int .i64 x176001_3] 51 (0, 0)) (by (with_reducible repeat (first | refine blk_drewN ?_ _ | refine blk_drew ?_ | refine blk_alloc ?_ _)); exact BK175.out) hb); have n3_ := Aside0.mk (below_step (by repeat (first | (with_reducible first | exact HB.out | apply below_alloc | apply pw_below_drewN | apply below_drew1 | refine below_set ?_ GE154.out | refine below_set ?_ GE173.out | refine below_set ?_ GE175.out) | exact HB.out)) hb); clear BK154; clear BK173; clear BK175; clear HB; have BK154 := n0_; have BK173 := n1_; have BK175 := n2_; have HB := n3_; clear n0_ n1_ n2_ n3_; (try clear hb); (try clear hb2); (try clear hk); (try clear hi); have hcz54_0 : w53.cell? ⟨gb154, 0, none⟩ = some (.int .i64 t159) := (blk_cell BK154.out 0).trans rfl; have hcz54_1 : w53.cell? ⟨gb154, 1, none⟩ = some (.int .i64 t160) := (blk_cell BK154.out 1).trans rfl; have hcz54_2 : w53.cell? ⟨gb154, 2, none⟩ = some (.int .i64 t161) := (blk_cell BK154.out 2).trans rfl; have hcz54_3 : w53.cell? ⟨gb154, 3, none⟩ = some (.int .i64 t162) := (blk_cell BK154.out 3).trans rfl; have hcz54_4 : w53.cell? ⟨gb154, 4, none⟩ = some (.int .i64 t163) := (blk_cell BK154.out 4).trans rfl; have hcz54_5 : w53.cell? ⟨gb154, 5, none⟩ = some (.int .i64 t164) := (blk_cell BK154.out 5).trans rfl; have hcz54_6 : w53.cell? ⟨gb154, 6, none⟩ = some (.int .i64 t165) := (blk_cell BK154.out 6).trans rfl; have hcz54_7 : w53.cell? ⟨gb154, 7, none⟩ = some (.int .i64 t166) := (blk_cell BK154.out 7).trans rfl; have hcz54_8 : w53.cell? ⟨gb154, 8, none⟩ = some (.int .i64 t167) := (blk_cell BK154.out 8).trans rfl; have hcz54_9 : w53.cell? ⟨gb154, 9, none⟩ = some (.int .i64 t168) := (blk_cell BK154.out 9).trans rfl; have hcz54_10 : w53.cell? ⟨gb154, 10, none⟩ = some (.int .i64 t169) := (blk_cell BK154.out 10).trans rfl; have hcz54_11 : w53.cell? ⟨gb154, 11, none⟩ = some (.int .i64 t170) := (blk_cell BK154.out 11).trans rfl; have hfz54_0 := blk_frozen BK154.out 0; have hfz54_1 := blk_frozen BK154.out 1; have hfz54_2 := blk_frozen BK154.out 2; have hfz54_3 := blk_frozen BK154.out 3; have hfz54_4 := blk_frozen BK154.out 4; have hfz54_5 := blk_frozen BK154.out 5; have hfz54_6 := blk_frozen BK154.out 6; have hfz54_7 := blk_frozen BK154.out 7; have hfz54_8 := blk_frozen BK154.out 8; have hfz54_9 := blk_frozen BK154.out 9; have hfz54_10 := blk_frozen BK154.out 10; have hfz54_11 := blk_frozen BK154.out 11) | (go_at_call 23; (with_reducible refine (arrearslaw8_ownSide.calls k3 t159 t160 t161 t162 t163 t164 t165 t166 t167 t168 t169 t170 true _ ?sideL A43.out).mono ?_); (case sideL => exact laid_at HL0_.out (by repeat (first | (with_reducible first | exact HB.out | apply below_alloc | apply pw_below_drewN | apply below_drew1 | refine below_set ?_ (Aside0.out (by assumption))) | exact HB.out | exact Below.refl _ _ | exact Drawn0.below (Drawn0.refl _)))); rintro e w55 ⟨rfl, hb⟩; have n0_ := Aside0.mk (blk_below (g := gb154) (o := .cells #[.int .i64 t159, .int .i64 t160, .int .i64 t161, .int .i64 t162, .int .i64 t163, .int .i64 t164, .int .i64 t165, .int .i64 t166, .int .i64 t167, .int .i64 t168, .int .i64 t169, .int .i64 t170] 24 (0, 0)) (by (with_reducible repeat (first | refine blk_drewN ?_ _ | refine blk_drew ?_ | refine blk_alloc ?_ _)); exact BK154.out) hb); have n1_ := Aside0.mk (blk_below (g := gb173) (o := .cells #[.int .i64 t159, .int .i64 t160, .int .i64 t161, .int .i64 t162, .int .i64 t163, .int .i64 t164, .int .i64 t165, .int .i64 t166, .int .i64 t167, .int .i64 t168, .int .i64 t169, .int .i64 t170] 24 (0, 0)) (by (with_reducible repeat (first | refine blk_drewN ?_ _ | refine blk_drew ?_ | refine blk_alloc ?_ _)); exact BK173.out) hb); have n2_ := Aside0.mk (blk_below (g := gb175) (o := .cells #[.int .i64 x176000_3, .int .i64 x176001_3] 51 (0, 0)) (by (with_reducible repeat (first | refine blk_drewN ?_ _ | refine blk_drew ?_ | refine blk_alloc ?_ _)); exact BK175.out) hb); have n3_ := Aside0.mk (below_step (by repeat (first | (with_reducible first | exact HB.out | apply below_alloc | apply pw_below_drewN | apply below_drew1 | refine below_set ?_ GE154.out | refine below_set ?_ GE173.out | refine below_set ?_ GE175.out) | exact HB.out)) hb); clear BK154; clear BK173; clear BK175; clear HB; have BK154 := n0_; have BK173 := n1_; have BK175 := n2_; have HB := n3_; clear n0_ n1_ n2_ n3_; (try clear hb); (try clear hb2); (try clear hk); (try clear hi)))
                   go_roundg k3
                   case measure => have := HK1.out; have := HJ13.out; have := HK3.out; omega
                   case rel => exact ⟨(wrap64 (x4_1 + 1)), (t159), (t160), (t161), (t162), (t163), (t164), (t165), (t166), (t167), (t168), (t169), (t170), (by first | rfl | (simp; done) | (simp [*]; done)), H', ⟨by have := HK1.out; have := HJ13.out; have := HK3.out; omega⟩, ⟨by (with_reducible repeat (first | refine blk_drewN ?_ _ | refine blk_drew ?_ | refine blk_alloc ?_ _)); exact BK154.out⟩, ⟨by repeat (first | (with_reducible first | exact HB.out | apply below_alloc | apply pw_below_drewN | apply below_drew1 | refine below_set ?_ GE154.out | refine below_set ?_ GE173.out | refine below_set ?_ GE175.out) | exact HB.out)⟩⟩
                  ·
                   rw [if_neg c46] at H
                   exact absurd H (by simp)
                 ·
                  replace c45 := Bool.eq_false_iff.mpr c45
                  subst c45
                  have H1 : (if t176 = 0 then (if t177 = 0 then (arrearslaw8_LedgerBalanced.l0 k3 l0 (wrap64 (x4_1 + 1)) t159 t160 t161 t162 t163 t164 t165 t166 t167 t168 t169 t170) else (none)) else (none)) = some r := by rw [if_neg (show ¬ (false = true) by decide)] at H; exact H
                  clear H
                  have H := H1
                  clear H1
                  by_cases c56 : t176 = 0
                  ·
                   rw [if_pos c56] at H
                   have c56b0 : (t176 == 0) = true := beq_iff_eq.mpr c56
                   have c56b1 : (t176 != 0) = false := bne_eq_false_iff_eq.mpr c56
                   clear c56
                   by_cases c57 : t177 = 0
                   ·
                    rw [if_pos c57] at H
                    have c57b0 : (t177 == 0) = true := beq_iff_eq.mpr c57
                    have c57b1 : (t177 != 0) = false := bne_eq_false_iff_eq.mpr c57
                    clear c57
                    have H' := Aside0.mk H
                    clear H
                    have hnb58 := NB154_173.out
                    have hnc58 := NB173_154.out
                    have hnb59 := NB154_175.out
                    have hnc59 := NB175_154.out
                    have hcz60_0 : wr.cell? ⟨gb154, 0, none⟩ = some (.int .i64 t159) := (blk_cell BK154.out 0).trans rfl
                    have hcz60_1 : wr.cell? ⟨gb154, 1, none⟩ = some (.int .i64 t160) := (blk_cell BK154.out 1).trans rfl
                    have hcz60_2 : wr.cell? ⟨gb154, 2, none⟩ = some (.int .i64 t161) := (blk_cell BK154.out 2).trans rfl
                    have hcz60_3 : wr.cell? ⟨gb154, 3, none⟩ = some (.int .i64 t162) := (blk_cell BK154.out 3).trans rfl
                    have hcz60_4 : wr.cell? ⟨gb154, 4, none⟩ = some (.int .i64 t163) := (blk_cell BK154.out 4).trans rfl
                    have hcz60_5 : wr.cell? ⟨gb154, 5, none⟩ = some (.int .i64 t164) := (blk_cell BK154.out 5).trans rfl
                    have hcz60_6 : wr.cell? ⟨gb154, 6, none⟩ = some (.int .i64 t165) := (blk_cell BK154.out 6).trans rfl
                    have hcz60_7 : wr.cell? ⟨gb154, 7, none⟩ = some (.int .i64 t166) := (blk_cell BK154.out 7).trans rfl
                    have hcz60_8 : wr.cell? ⟨gb154, 8, none⟩ = some (.int .i64 t167) := (blk_cell BK154.out 8).trans rfl
                    have hcz60_9 : wr.cell? ⟨gb154, 9, none⟩ = some (.int .i64 t168) := (blk_cell BK154.out 9).trans rfl
                    have hcz60_10 : wr.cell? ⟨gb154, 10, none⟩ = some (.int .i64 t169) := (blk_cell BK154.out 10).trans rfl
                    have hcz60_11 : wr.cell? ⟨gb154, 11, none⟩ = some (.int .i64 t170) := (blk_cell BK154.out 11).trans rfl
                    have hfz60_0 := blk_frozen BK154.out 0
                    have hfz60_1 := blk_frozen BK154.out 1
                    have hfz60_2 := blk_frozen BK154.out 2
                    have hfz60_3 := blk_frozen BK154.out 3
                    have hfz60_4 := blk_frozen BK154.out 4
                    have hfz60_5 := blk_frozen BK154.out 5
                    have hfz60_6 := blk_frozen BK154.out 6
                    have hfz60_7 := blk_frozen BK154.out 7
                    have hfz60_8 := blk_frozen BK154.out 8
                    have hfz60_9 := blk_frozen BK154.out 9
                    have hfz60_10 := blk_frozen BK154.out 10
                    have hfz60_11 := blk_frozen BK154.out 11
                    go_wp2_with (first | ((with_reducible refine gate_callee (f := 27) rfl ?_); refine goesL_ (some 61) rfl rfl Tryd.func27 (by kernel_rfl) rfl #[.agg #[.int .i64 t159, .int .i64 t160, .int .i64 t161, .int .i64 t162, .int .i64 t163, .int .i64 t164, .int .i64 t165, .int .i64 t166, .int .i64 t167, .int .i64 t168, .int .i64 t169, .int .i64 t170]] rfl (by (try simp only [List.map_toArray, List.map_cons, List.map_nil]); first | done | rfl | (simp only [List.length_drop, List.length_take]; rfl)) ?_; (with_reducible refine (ledger_Trial.calls k3 t159 t160 t161 t162 t163 t164 t165 t166 t167 t168 t169 t170 t176 t177 false _ A40.out).mono ?_); rintro e w61 ⟨rfl, hb⟩; refine ⟨_, rfl, ?_⟩; have n0_ := Aside0.mk (blk_below (g := gb154) (o := .cells #[.int .i64 t159, .int .i64 t160, .int .i64 t161, .int .i64 t162, .int .i64 t163, .int .i64 t164, .int .i64 t165, .int .i64 t166, .int .i64 t167, .int .i64 t168, .int .i64 t169, .int .i64 t170] 24 (0, 0)) (by (with_reducible repeat (first | refine blk_drewN ?_ _ | refine blk_drew ?_ | refine blk_alloc ?_ _)); exact BK154.out) hb); have n1_ := Aside0.mk (blk_below (g := gb173) (o := .cells #[.int .i64 t159, .int .i64 t160, .int .i64 t161, .int .i64 t162, .int .i64 t163, .int .i64 t164, .int .i64 t165, .int .i64 t166, .int .i64 t167, .int .i64 t168, .int .i64 t169, .int .i64 t170] 24 (0, 0)) (by (with_reducible repeat (first | refine blk_drewN ?_ _ | refine blk_drew ?_ | refine blk_alloc ?_ _)); exact BK173.out) hb); have n2_ := Aside0.mk (blk_below (g := gb175) (o := .cells #[.int .i64 x176000_3, .int .i64 x176001_3] 51 (0, 0)) (by (with_reducible repeat (first | refine blk_drewN ?_ _ | refine blk_drew ?_ | refine blk_alloc ?_ _)); exact BK175.out) hb); have n3_ := Aside0.mk (below_step (by repeat (first | (with_reducible first | exact HB.out | apply below_alloc | apply pw_below_drewN | apply below_drew1 | refine below_set ?_ GE154.out | refine below_set ?_ GE173.out | refine below_set ?_ GE175.out) | exact HB.out)) hb); clear BK154; clear BK173; clear BK175; clear HB; have BK154 := n0_; have BK173 := n1_; have BK175 := n2_; have HB := n3_; clear n0_ n1_ n2_ n3_; (try clear hb); (try clear hb2); (try clear hk); (try clear hi); have hnb62 := NB175_173.out; have hnc62 := NB173_175.out; have hcz63_0 : w61.cell? ⟨gb175, 0, none⟩ = some (.int .i64 x176000_3) := (blk_cell BK175.out 0).trans rfl; have hcz63_1 : w61.cell? ⟨gb175, 1, none⟩ = some (.int .i64 x176001_3) := (blk_cell BK175.out 1).trans rfl; have hfz63_0 := blk_frozen BK175.out 0; have hfz63_1 := blk_frozen BK175.out 1) | ((with_reducible refine gate_callee (f := 29) rfl ?_); refine goesL_ (some 66) rfl rfl Tryd.func29 (by kernel_rfl) rfl #[.agg #[.int .i64 x176000_3, .int .i64 x176001_3]] rfl (by (try simp only [List.map_toArray, List.map_cons, List.map_nil]); first | done | rfl | (simp only [List.length_drop, List.length_take]; rfl)) ?_; (with_reducible refine (arrearslaw8_nothing.calls x176000_3 x176001_3 true _ A41.out).mono ?_); rintro e w64 ⟨rfl, hb⟩; refine ⟨_, rfl, ?_⟩; have n0_ := Aside0.mk (blk_below (g := gb154) (o := .cells #[.int .i64 t159, .int .i64 t160, .int .i64 t161, .int .i64 t162, .int .i64 t163, .int .i64 t164, .int .i64 t165, .int .i64 t166, .int .i64 t167, .int .i64 t168, .int .i64 t169, .int .i64 t170] 24 (0, 0)) (by (with_reducible repeat (first | refine blk_drewN ?_ _ | refine blk_drew ?_ | refine blk_alloc ?_ _)); exact BK154.out) hb); have n1_ := Aside0.mk (blk_below (g := gb173) (o := .cells #[.int .i64 t159, .int .i64 t160, .int .i64 t161, .int .i64 t162, .int .i64 t163, .int .i64 t164, .int .i64 t165, .int .i64 t166, .int .i64 t167, .int .i64 t168, .int .i64 t169, .int .i64 t170] 24 (0, 0)) (by (with_reducible repeat (first | refine blk_drewN ?_ _ | refine blk_drew ?_ | refine blk_alloc ?_ _)); exact BK173.out) hb); have n2_ := Aside0.mk (blk_below (g := gb175) (o := .cells #[.int .i64 x176000_3, .int .i64 x176001_3] 51 (0, 0)) (by (with_reducible repeat (first | refine blk_drewN ?_ _ | refine blk_drew ?_ | refine blk_alloc ?_ _)); exact BK175.out) hb); have n3_ := Aside0.mk (below_step (by repeat (first | (with_reducible first | exact HB.out | apply below_alloc | apply pw_below_drewN | apply below_drew1 | refine below_set ?_ GE154.out | refine below_set ?_ GE173.out | refine below_set ?_ GE175.out) | exact HB.out)) hb); clear BK154; clear BK173; clear BK175; clear HB; have BK154 := n0_; have BK173 := n1_; have BK175 := n2_; have HB := n3_; clear n0_ n1_ n2_ n3_; (try clear hb); (try clear hb2); (try clear hk); (try clear hi); have hcz65_0 : w64.cell? ⟨gb154, 0, none⟩ = some (.int .i64 t159) := (blk_cell BK154.out 0).trans rfl; have hcz65_1 : w64.cell? ⟨gb154, 1, none⟩ = some (.int .i64 t160) := (blk_cell BK154.out 1).trans rfl; have hcz65_2 : w64.cell? ⟨gb154, 2, none⟩ = some (.int .i64 t161) := (blk_cell BK154.out 2).trans rfl; have hcz65_3 : w64.cell? ⟨gb154, 3, none⟩ = some (.int .i64 t162) := (blk_cell BK154.out 3).trans rfl; have hcz65_4 : w64.cell? ⟨gb154, 4, none⟩ = some (.int .i64 t163) := (blk_cell BK154.out 4).trans rfl; have hcz65_5 : w64.cell? ⟨gb154, 5, none⟩ = some (.int .i64 t164) := (blk_cell BK154.out 5).trans rfl; have hcz65_6 : w64.cell? ⟨gb154, 6, none⟩ = some (.int .i64 t165) := (blk_cell BK154.out 6).trans rfl; have hcz65_7 : w64.cell? ⟨gb154, 7, none⟩ = some (.int .i64 t166) := (blk_cell BK154.out 7).trans rfl; have hcz65_8 : w64.cell? ⟨gb154, 8, none⟩ = some (.int .i64 t167) := (blk_cell BK154.out 8).trans rfl; have hcz65_9 : w64.cell? ⟨gb154, 9, none⟩ = some (.int .i64 t168) := (blk_cell BK154.out 9).trans rfl; have hcz65_10 : w64.cell? ⟨gb154, 10, none⟩ = some (.int .i64 t169) := (blk_cell BK154.out 10).trans rfl; have hcz65_11 : w64.cell? ⟨gb154, 11, none⟩ = some (.int .i64 t170) := (blk_cell BK154.out 11).trans rfl; have hfz65_0 := blk_frozen BK154.out 0; have hfz65_1 := blk_frozen BK154.out 1; have hfz65_2 := blk_frozen BK154.out 2; have hfz65_3 := blk_frozen BK154.out 3; have hfz65_4 := blk_frozen BK154.out 4; have hfz65_5 := blk_frozen BK154.out 5; have hfz65_6 := blk_frozen BK154.out 6; have hfz65_7 := blk_frozen BK154.out 7; have hfz65_8 := blk_frozen BK154.out 8; have hfz65_9 := blk_frozen BK154.out 9; have hfz65_10 := blk_frozen BK154.out 10; have hfz65_11 := blk_frozen BK154.out 11) | (go_at_call 23; (with_reducible refine (arrearslaw8_ownSide.calls k3 t159 t160 t161 t162 t163 t164 t165 t166 t167 t168 t169 t170 true _ ?sideL A43.out).mono ?_); (case sideL => exact laid_at HL0_.out (by repeat (first | (with_reducible first | exact HB.out | apply below_alloc | apply pw_below_drewN | apply below_drew1 | refine below_set ?_ (Aside0.out (by assumption))) | exact HB.out | exact Below.refl _ _ | exact Drawn0.below (Drawn0.refl _)))); rintro e w66 ⟨rfl, hb⟩; have n0_ := Aside0.mk (blk_below (g := gb154) (o := .cells #[.int .i64 t159, .int .i64 t160, .int .i64 t161, .int .i64 t162, .int .i64 t163, .int .i64 t164, .int .i64 t165, .int .i64 t166, .int .i64 t167, .int .i64 t168, .int .i64 t169, .int .i64 t170] 24 (0, 0)) (by (with_reducible repeat (first | refine blk_drewN ?_ _ | refine blk_drew ?_ | refine blk_alloc ?_ _)); exact BK154.out) hb); have n1_ := Aside0.mk (blk_below (g := gb173) (o := .cells #[.int .i64 t159, .int .i64 t160, .int .i64 t161, .int .i64 t162, .int .i64 t163, .int .i64 t164, .int .i64 t165, .int .i64 t166, .int .i64 t167, .int .i64 t168, .int .i64 t169, .int .i64 t170] 24 (0, 0)) (by (with_reducible repeat (first | refine blk_drewN ?_ _ | refine blk_drew ?_ | refine blk_alloc ?_ _)); exact BK173.out) hb); have n2_ := Aside0.mk (blk_below (g := gb175) (o := .cells #[.int .i64 x176000_3, .int .i64 x176001_3] 51 (0, 0)) (by (with_reducible repeat (first | refine blk_drewN ?_ _ | refine blk_drew ?_ | refine blk_alloc ?_ _)); exact BK175.out) hb); have n3_ := Aside0.mk (below_step (by repeat (first | (with_reducible first | exact HB.out | apply below_alloc | apply pw_below_drewN | apply below_drew1 | refine below_set ?_ GE154.out | refine below_set ?_ GE173.out | refine below_set ?_ GE175.out) | exact HB.out)) hb); clear BK154; clear BK173; clear BK175; clear HB; have BK154 := n0_; have BK173 := n1_; have BK175 := n2_; have HB := n3_; clear n0_ n1_ n2_ n3_; (try clear hb); (try clear hb2); (try clear hk); (try clear hi)))
                    go_roundg k3
                    case measure => have := HK1.out; have := HJ13.out; have := HK3.out; omega
                    case rel => exact ⟨(wrap64 (x4_1 + 1)), (t159), (t160), (t161), (t162), (t163), (t164), (t165), (t166), (t167), (t168), (t169), (t170), (by first | rfl | (simp; done) | (simp [*]; done)), H', ⟨by have := HK1.out; have := HJ13.out; have := HK3.out; omega⟩, ⟨by (with_reducible repeat (first | refine blk_drewN ?_ _ | refine blk_drew ?_ | refine blk_alloc ?_ _)); exact BK154.out⟩, ⟨by repeat (first | (with_reducible first | exact HB.out | apply below_alloc | apply pw_below_drewN | apply below_drew1 | refine below_set ?_ GE154.out | refine below_set ?_ GE173.out | refine below_set ?_ GE175.out) | exact HB.out)⟩⟩
                   ·
                    rw [if_neg c57] at H
                    exact absurd H (by simp)
                  ·
                   rw [if_neg c56] at H
                   exact absurd H (by simp)
                ·
                 replace c44 := Bool.eq_false_iff.mpr c44
                 subst c44
                 have H1 : (none) = some r := by rw [if_neg (show ¬ (false = true) by decide)] at H; exact H
                 clear H
                 have H := H1
                 clear H1
                 exact absurd H (by simp)
               ·
                replace c42 := Bool.eq_false_iff.mpr c42
                subst c42
                have H1 : (none) = some r := by rw [if_neg (show ¬ (false = true) by decide)] at H; exact H
                clear H
                have H := H1
                clear H1
                exact absurd H (by simp)
        ·
         rw [if_neg c11] at H
         exact absurd H (by simp)
       ·
        rw [if_neg c10] at H
        exact absurd H (by simp)
      ·
       rw [if_neg c8] at H
       have c8b0 : ((Int.tmod x4_1 3) == 2) = false := beq_eq_false_iff_ne.mpr c8
       have c8b1 : ((Int.tmod x4_1 3) != 2) = true := bne_iff_ne.mpr c8
       replace H := Option.bind_eq_some_iff.mp H
       obtain ⟨⟨t181, t182, t183, t184, t185, t186, t187, t188, t189, t190, t191, t192, t193⟩, A670, H⟩ := H
       replace H : (if t193 = 0 then (arrearslaw8_LedgerBalanced.j3 k1 l0 x4_1 false t181 t182 t183 t184 t185 t186 t187 t188 t189 t190 t191 t192) else ((arrearslaw8_same.f k1 x155000_1 x155001_1 x155002_1 x155003_1 x155004_1 x155005_1 x155006_1 x155007_1 x155008_1 x155009_1 x155010_1 x155011_1 t181 t182 t183 t184 t185 t186 t187 t188 t189 t190 t191 t192).bind fun t194 => (arrearslaw8_LedgerBalanced.j3 k1 l0 x4_1 (!t194) t181 t182 t183 t184 t185 t186 t187 t188 t189 t190 t191 t192))) = some r := H
       have A67 := Aside0.mk A670
       clear A670
       have HC68 := Aside0.mk H
       clear H
       have p154 : 0 ≤ (x4_1 : Int) := of_decide_eq_true (by first | (with_reducible assumption) | assumption)
       have q154 : x4_1 < (l0.length : Int) := of_decide_eq_true (by first | (with_reducible assumption) | assumption)
       obtain ⟨ad154, A154_0, c154_0, e154, hx154_0, hl154_0, hi154_0⟩ := at_L6 HR0.out x4_1 p154 q154
       cases e154
       replace hx154_0 := (HB.out.cell (World.block_lt_of_cell? w _ hx154_0)).trans hx154_0
       have HR154_0 := Aside0.mk hi154_0
       have HC154_0 := Aside0.mk hl154_0
       clear hi154_0 hl154_0
       replace p154 := eq_true p154
       replace q154 := eq_true q154
       have hcz69_0 : wr.cell? ⟨gb154, 0, none⟩ = some (.int .i64 x155000_1) := (blk_cell BK154.out 0).trans rfl
       have hcz69_1 : wr.cell? ⟨gb154, 1, none⟩ = some (.int .i64 x155001_1) := (blk_cell BK154.out 1).trans rfl
       have hcz69_2 : wr.cell? ⟨gb154, 2, none⟩ = some (.int .i64 x155002_1) := (blk_cell BK154.out 2).trans rfl
       have hcz69_3 : wr.cell? ⟨gb154, 3, none⟩ = some (.int .i64 x155003_1) := (blk_cell BK154.out 3).trans rfl
       have hcz69_4 : wr.cell? ⟨gb154, 4, none⟩ = some (.int .i64 x155004_1) := (blk_cell BK154.out 4).trans rfl
       have hcz69_5 : wr.cell? ⟨gb154, 5, none⟩ = some (.int .i64 x155005_1) := (blk_cell BK154.out 5).trans rfl
       have hcz69_6 : wr.cell? ⟨gb154, 6, none⟩ = some (.int .i64 x155006_1) := (blk_cell BK154.out 6).trans rfl
       have hcz69_7 : wr.cell? ⟨gb154, 7, none⟩ = some (.int .i64 x155007_1) := (blk_cell BK154.out 7).trans rfl
       have hcz69_8 : wr.cell? ⟨gb154, 8, none⟩ = some (.int .i64 x155008_1) := (blk_cell BK154.out 8).trans rfl
       have hcz69_9 : wr.cell? ⟨gb154, 9, none⟩ = some (.int .i64 x155009_1) := (blk_cell BK154.out 9).trans rfl
       have hcz69_10 : wr.cell? ⟨gb154, 10, none⟩ = some (.int .i64 x155010_1) := (blk_cell BK154.out 10).trans rfl
       have hcz69_11 : wr.cell? ⟨gb154, 11, none⟩ = some (.int .i64 x155011_1) := (blk_cell BK154.out 11).trans rfl
       have hfz69_0 := blk_frozen BK154.out 0
       have hfz69_1 := blk_frozen BK154.out 1
       have hfz69_2 := blk_frozen BK154.out 2
       have hfz69_3 := blk_frozen BK154.out 3
       have hfz69_4 := blk_frozen BK154.out 4
       have hfz69_5 := blk_frozen BK154.out 5
       have hfz69_6 := blk_frozen BK154.out 6
       have hfz69_7 := blk_frozen BK154.out 7
       have hfz69_8 := blk_frozen BK154.out 8
       have hfz69_9 := blk_frozen BK154.out 9
       have hfz69_10 := blk_frozen BK154.out 10
       have hfz69_11 := blk_frozen BK154.out 11
       go_upto_region 11 with (first | ((with_reducible refine gate_callee (f := 17) rfl ?_); refine goesL_ (some 37) rfl rfl Tryd.func17 (by kernel_rfl) rfl #[.agg #[.int .i64 x155000_1, .int .i64 x155001_1, .int .i64 x155002_1, .int .i64 x155003_1, .int .i64 x155004_1, .int .i64 x155005_1, .int .i64 x155006_1, .int .i64 x155007_1, .int .i64 x155008_1, .int .i64 x155009_1, .int .i64 x155010_1, .int .i64 x155011_1], .slice A154_0 (rd_L6 l0 x4_1).length c154_0] rfl (by (try simp only [List.map_toArray, List.map_cons, List.map_nil]); first | done | rfl | (simp only [List.length_drop, List.length_take]; rfl)) ?_; (with_reducible refine (ledger_Post.calls x155000_1 x155001_1 x155002_1 x155003_1 x155004_1 x155005_1 x155006_1 x155007_1 x155008_1 x155009_1 x155010_1 x155011_1 _ _ (rd_L6 l0 x4_1) t181 t182 t183 t184 t185 t186 t187 t188 t189 t190 t191 t192 t193 _ ?side1 ?side2 ?sideL A67.out).mono ?_); (case sideL => exact laid_at HL0_.out (by repeat (first | (with_reducible first | exact HB.out | apply below_alloc | apply pw_below_drewN | apply below_drew1 | refine below_set ?_ (Aside0.out (by assumption))) | exact HB.out | exact Below.refl _ _ | exact Drawn0.below (Drawn0.refl _)))); (case side1 => repeat (first | exact (Kd.C_below HR154_0.out HB.out) | (with_reducible refine Kd.C_alloc ?_ _) | (with_reducible refine Kd.C_drewN ?_ _) | (with_reducible refine Kd.C_drew ?_))); (case side2 => exact HC154_0.out); rintro e w70 ⟨rfl, hb⟩; refine ⟨_, rfl, ?_⟩; have n0_ := Aside0.mk (blk_below (g := gb154) (o := .cells #[.int .i64 x155000_1, .int .i64 x155001_1, .int .i64 x155002_1, .int .i64 x155003_1, .int .i64 x155004_1, .int .i64 x155005_1, .int .i64 x155006_1, .int .i64 x155007_1, .int .i64 x155008_1, .int .i64 x155009_1, .int .i64 x155010_1, .int .i64 x155011_1] 24 (0, 0)) (by (with_reducible repeat (first | refine blk_drewN ?_ _ | refine blk_drew ?_ | refine blk_alloc ?_ _)); exact BK154.out) hb); have n1_ := Aside0.mk (below_step (by repeat (first | (with_reducible first | exact HB.out | apply below_alloc | apply pw_below_drewN | apply below_drew1 | refine below_set ?_ GE154.out) | exact HB.out)) hb); clear BK154; clear HB; have BK154 := n0_; have HB := n1_; clear n0_ n1_; (try clear hb); (try clear hb2); (try clear hk); (try clear hi)) | ((with_reducible refine gate_dst (N := 6) rfl ?_); refine box_event ?hg (N := 6) ?hd (cs := #[.int .i64 0, .int .i64 0, .int .i64 0, .int .i64 0, .int .i64 0, .int .i64 0, .int .i64 0, .int .i64 0, .int .i64 0, .int .i64 0, .int .i64 0, .int .i64 0]) (t := 24) ?hr ?_; (case hd => rfl); (case hg => rfl); (case hr => first | (go_simp; done) | (go_simp; rfl)); intro gb173 hg w71 hbox hb; have n0_ := Aside0.mk (blk_below (g := gb154) (o := .cells #[.int .i64 x155000_1, .int .i64 x155001_1, .int .i64 x155002_1, .int .i64 x155003_1, .int .i64 x155004_1, .int .i64 x155005_1, .int .i64 x155006_1, .int .i64 x155007_1, .int .i64 x155008_1, .int .i64 x155009_1, .int .i64 x155010_1, .int .i64 x155011_1] 24 (0, 0)) (by (with_reducible repeat (first | refine blk_drewN ?_ _ | refine blk_drew ?_ | refine blk_alloc ?_ _)); exact BK154.out) hb); have n1_ := Aside0.mk (below_step (by repeat (first | (with_reducible first | exact HB.out | apply below_alloc | apply pw_below_drewN | apply below_drew1 | refine below_set ?_ GE154.out) | exact HB.out)) hb); have n2_ := Aside0.mk (hbox); have n3_ := Aside0.mk ((by rw [hg]; exact (below_size (by repeat (first | (with_reducible first | exact HB.out | apply below_alloc | apply pw_below_drewN | apply below_drew1 | refine below_set ?_ GE154.out) | exact HB.out))) : w.heap.size ≤ gb173)); have n4_ := Aside0.mk ((by rw [hg]; exact (below_size (by repeat (first | (with_reducible first | exact HB.out | apply below_alloc | apply pw_below_drewN | apply below_drew1 | refine below_set ?_ GE154.out) | exact HB.out))) : w.heap.size ≤ gb173)); have n5_ := Aside0.mk ((by rw [hg]; exact Nat.ne_of_lt (blk_lt (g := gb154) (o := .cells #[.int .i64 x155000_1, .int .i64 x155001_1, .int .i64 x155002_1, .int .i64 x155003_1, .int .i64 x155004_1, .int .i64 x155005_1, .int .i64 x155006_1, .int .i64 x155007_1, .int .i64 x155008_1, .int .i64 x155009_1, .int .i64 x155010_1, .int .i64 x155011_1] 24 (0, 0)) (by (with_reducible repeat (first | refine blk_drewN ?_ _ | refine blk_drew ?_ | refine blk_alloc ?_ _)); exact BK154.out)) : gb154 ≠ gb173)); have n6_ := Aside0.mk ((by rw [hg]; exact Nat.ne_of_gt (blk_lt (g := gb154) (o := .cells #[.int .i64 x155000_1, .int .i64 x155001_1, .int .i64 x155002_1, .int .i64 x155003_1, .int .i64 x155004_1, .int .i64 x155005_1, .int .i64 x155006_1, .int .i64 x155007_1, .int .i64 x155008_1, .int .i64 x155009_1, .int .i64 x155010_1, .int .i64 x155011_1] 24 (0, 0)) (by (with_reducible repeat (first | refine blk_drewN ?_ _ | refine blk_drew ?_ | refine blk_alloc ?_ _)); exact BK154.out)) : gb173 ≠ gb154)); clear BK154; clear HB; have BK154 := n0_; have HB := n1_; have BK173 := n2_; have GW173 := n3_; have GE173 := n4_; have NB154_173 := n5_; have NB173_154 := n6_; clear n0_ n1_ n2_ n3_ n4_ n5_ n6_; clear hb hbox hg; have hnb72 := NB173_154.out; have hnc72 := NB154_173.out; have hcz73_0 : w71.cell? ⟨gb173, 0, none⟩ = some (.int .i64 0) := (blk_cell BK173.out 0).trans rfl; have hcz73_1 : w71.cell? ⟨gb173, 1, none⟩ = some (.int .i64 0) := (blk_cell BK173.out 1).trans rfl; have hcz73_2 : w71.cell? ⟨gb173, 2, none⟩ = some (.int .i64 0) := (blk_cell BK173.out 2).trans rfl; have hcz73_3 : w71.cell? ⟨gb173, 3, none⟩ = some (.int .i64 0) := (blk_cell BK173.out 3).trans rfl; have hcz73_4 : w71.cell? ⟨gb173, 4, none⟩ = some (.int .i64 0) := (blk_cell BK173.out 4).trans rfl; have hcz73_5 : w71.cell? ⟨gb173, 5, none⟩ = some (.int .i64 0) := (blk_cell BK173.out 5).trans rfl; have hcz73_6 : w71.cell? ⟨gb173, 6, none⟩ = some (.int .i64 0) := (blk_cell BK173.out 6).trans rfl; have hcz73_7 : w71.cell? ⟨gb173, 7, none⟩ = some (.int .i64 0) := (blk_cell BK173.out 7).trans rfl; have hcz73_8 : w71.cell? ⟨gb173, 8, none⟩ = some (.int .i64 0) := (blk_cell BK173.out 8).trans rfl; have hcz73_9 : w71.cell? ⟨gb173, 9, none⟩ = some (.int .i64 0) := (blk_cell BK173.out 9).trans rfl; have hcz73_10 : w71.cell? ⟨gb173, 10, none⟩ = some (.int .i64 0) := (blk_cell BK173.out 10).trans rfl; have hcz73_11 : w71.cell? ⟨gb173, 11, none⟩ = some (.int .i64 0) := (blk_cell BK173.out 11).trans rfl; have hfz73_0 := blk_frozen BK173.out 0; have hfz73_1 := blk_frozen BK173.out 1; have hfz73_2 := blk_frozen BK173.out 2; have hfz73_3 := blk_frozen BK173.out 3; have hfz73_4 := blk_frozen BK173.out 4; have hfz73_5 := blk_frozen BK173.out 5; have hfz73_6 := blk_frozen BK173.out 6; have hfz73_7 := blk_frozen BK173.out 7; have hfz73_8 := blk_frozen BK173.out 8; have hfz73_9 := blk_frozen BK173.out 9; have hfz73_10 := blk_frozen BK173.out 10; have hfz73_11 := blk_frozen BK173.out 11))
       (try simp only [Act.put, List.setIfInBounds_toArray, List.set_cons_zero, List.set_cons_succ])
       go_cut [47] (fun v47 wc => ∃ (kq : Nat) (x47_67 : Bool), v47 = .bool x47_67 ∧ Aside0 (arrearslaw8_LedgerBalanced.j3 kq l0 x4_1 x47_67 t181 t182 t183 t184 t185 t186 t187 t188 t189 t190 t191 t192 = some r) ∧ Aside0 (kq ≤ k1) ∧ Aside0 (wc.heap[gb154]? = some (.cells #[.int .i64 x155000_1, .int .i64 x155001_1, .int .i64 x155002_1, .int .i64 x155003_1, .int .i64 x155004_1, .int .i64 x155005_1, .int .i64 x155006_1, .int .i64 x155007_1, .int .i64 x155008_1, .int .i64 x155009_1, .int .i64 x155010_1, .int .i64 x155011_1] 24 (0, 0))) ∧ Aside0 (wc.heap[gb173]? = some (.cells #[.int .i64 t181, .int .i64 t182, .int .i64 t183, .int .i64 t184, .int .i64 t185, .int .i64 t186, .int .i64 t187, .int .i64 t188, .int .i64 t189, .int .i64 t190, .int .i64 t191, .int .i64 t192] 24 (0, 0))) ∧ Aside0 (Below w.heap.size w wc))
       case first =>
        have H := HC68.out
        clear HC68
        by_cases c74 : t193 = 0
        ·
         rw [if_pos c74] at H
         have c74b0 : (t193 == 0) = true := beq_iff_eq.mpr c74
         have c74b1 : (t193 != 0) = false := bne_eq_false_iff_eq.mpr c74
         clear c74
         (first | rw [c74b0] | (simp only [i64_w, i32_w]; rw [c74b0]) | skip)
         have H' := Aside0.mk H
         clear H
         go_wp2
         go_meet
         case rel => exact ⟨_, (false), (by first | rfl | (simp; done) | (simp [*]; done)), H', ⟨by have := HK1.out; first | omega | exact Nat.le_refl _⟩, ⟨by (with_reducible repeat (first | refine blk_drewN ?_ _ | refine blk_drew ?_ | refine blk_alloc ?_ _)); refine blk_far ?_ NB154_173.out _; (with_reducible repeat (first | refine blk_drewN ?_ _ | refine blk_drew ?_ | refine blk_alloc ?_ _)); refine blk_far ?_ NB154_173.out _; (with_reducible repeat (first | refine blk_drewN ?_ _ | refine blk_drew ?_ | refine blk_alloc ?_ _)); refine blk_far ?_ NB154_173.out _; (with_reducible repeat (first | refine blk_drewN ?_ _ | refine blk_drew ?_ | refine blk_alloc ?_ _)); refine blk_far ?_ NB154_173.out _; (with_reducible repeat (first | refine blk_drewN ?_ _ | refine blk_drew ?_ | refine blk_alloc ?_ _)); refine blk_far ?_ NB154_173.out _; (with_reducible repeat (first | refine blk_drewN ?_ _ | refine blk_drew ?_ | refine blk_alloc ?_ _)); refine blk_far ?_ NB154_173.out _; (with_reducible repeat (first | refine blk_drewN ?_ _ | refine blk_drew ?_ | refine blk_alloc ?_ _)); refine blk_far ?_ NB154_173.out _; (with_reducible repeat (first | refine blk_drewN ?_ _ | refine blk_drew ?_ | refine blk_alloc ?_ _)); refine blk_far ?_ NB154_173.out _; (with_reducible repeat (first | refine blk_drewN ?_ _ | refine blk_drew ?_ | refine blk_alloc ?_ _)); refine blk_far ?_ NB154_173.out _; (with_reducible repeat (first | refine blk_drewN ?_ _ | refine blk_drew ?_ | refine blk_alloc ?_ _)); refine blk_far ?_ NB154_173.out _; (with_reducible repeat (first | refine blk_drewN ?_ _ | refine blk_drew ?_ | refine blk_alloc ?_ _)); refine blk_far ?_ NB154_173.out _; (with_reducible repeat (first | refine blk_drewN ?_ _ | refine blk_drew ?_ | refine blk_alloc ?_ _)); refine blk_far ?_ NB154_173.out _; (with_reducible repeat (first | refine blk_drewN ?_ _ | refine blk_drew ?_ | refine blk_alloc ?_ _)); exact BK154.out⟩, ⟨by (with_reducible repeat (first | refine blk_drewN ?_ _ | refine blk_drew ?_ | refine blk_alloc ?_ _)); refine blk_put (cs := #[.int .i64 t181, .int .i64 t182, .int .i64 t183, .int .i64 t184, .int .i64 t185, .int .i64 t186, .int .i64 t187, .int .i64 t188, .int .i64 t189, .int .i64 t190, .int .i64 t191, .int .i64 0]) ?_ 11 _ rfl; (with_reducible repeat (first | refine blk_drewN ?_ _ | refine blk_drew ?_ | refine blk_alloc ?_ _)); refine blk_put (cs := #[.int .i64 t181, .int .i64 t182, .int .i64 t183, .int .i64 t184, .int .i64 t185, .int .i64 t186, .int .i64 t187, .int .i64 t188, .int .i64 t189, .int .i64 t190, .int .i64 0, .int .i64 0]) ?_ 10 _ rfl; (with_reducible repeat (first | refine blk_drewN ?_ _ | refine blk_drew ?_ | refine blk_alloc ?_ _)); refine blk_put (cs := #[.int .i64 t181, .int .i64 t182, .int .i64 t183, .int .i64 t184, .int .i64 t185, .int .i64 t186, .int .i64 t187, .int .i64 t188, .int .i64 t189, .int .i64 0, .int .i64 0, .int .i64 0]) ?_ 9 _ rfl; (with_reducible repeat (first | refine blk_drewN ?_ _ | refine blk_drew ?_ | refine blk_alloc ?_ _)); refine blk_put (cs := #[.int .i64 t181, .int .i64 t182, .int .i64 t183, .int .i64 t184, .int .i64 t185, .int .i64 t186, .int .i64 t187, .int .i64 t188, .int .i64 0, .int .i64 0, .int .i64 0, .int .i64 0]) ?_ 8 _ rfl; (with_reducible repeat (first | refine blk_drewN ?_ _ | refine blk_drew ?_ | refine blk_alloc ?_ _)); refine blk_put (cs := #[.int .i64 t181, .int .i64 t182, .int .i64 t183, .int .i64 t184, .int .i64 t185, .int .i64 t186, .int .i64 t187, .int .i64 0, .int .i64 0, .int .i64 0, .int .i64 0, .int .i64 0]) ?_ 7 _ rfl; (with_reducible repeat (first | refine blk_drewN ?_ _ | refine blk_drew ?_ | refine blk_alloc ?_ _)); refine blk_put (cs := #[.int .i64 t181, .int .i64 t182, .int .i64 t183, .int .i64 t184, .int .i64 t185, .int .i64 t186, .int .i64 0, .int .i64 0, .int .i64 0, .int .i64 0, .int .i64 0, .int .i64 0]) ?_ 6 _ rfl; (with_reducible repeat (first | refine blk_drewN ?_ _ | refine blk_drew ?_ | refine blk_alloc ?_ _)); refine blk_put (cs := #[.int .i64 t181, .int .i64 t182, .int .i64 t183, .int .i64 t184, .int .i64 t185, .int .i64 0, .int .i64 0, .int .i64 0, .int .i64 0, .int .i64 0, .int .i64 0, .int .i64 0]) ?_ 5 _ rfl; (with_reducible repeat (first | refine blk_drewN ?_ _ | refine blk_drew ?_ | refine blk_alloc ?_ _)); refine blk_put (cs := #[.int .i64 t181, .int .i64 t182, .int .i64 t183, .int .i64 t184, .int .i64 0, .int .i64 0, .int .i64 0, .int .i64 0, .int .i64 0, .int .i64 0, .int .i64 0, .int .i64 0]) ?_ 4 _ rfl; (with_reducible repeat (first | refine blk_drewN ?_ _ | refine blk_drew ?_ | refine blk_alloc ?_ _)); refine blk_put (cs := #[.int .i64 t181, .int .i64 t182, .int .i64 t183, .int .i64 0, .int .i64 0, .int .i64 0, .int .i64 0, .int .i64 0, .int .i64 0, .int .i64 0, .int .i64 0, .int .i64 0]) ?_ 3 _ rfl; (with_reducible repeat (first | refine blk_drewN ?_ _ | refine blk_drew ?_ | refine blk_alloc ?_ _)); refine blk_put (cs := #[.int .i64 t181, .int .i64 t182, .int .i64 0, .int .i64 0, .int .i64 0, .int .i64 0, .int .i64 0, .int .i64 0, .int .i64 0, .int .i64 0, .int .i64 0, .int .i64 0]) ?_ 2 _ rfl; (with_reducible repeat (first | refine blk_drewN ?_ _ | refine blk_drew ?_ | refine blk_alloc ?_ _)); refine blk_put (cs := #[.int .i64 t181, .int .i64 0, .int .i64 0, .int .i64 0, .int .i64 0, .int .i64 0, .int .i64 0, .int .i64 0, .int .i64 0, .int .i64 0, .int .i64 0, .int .i64 0]) ?_ 1 _ rfl; (with_reducible repeat (first | refine blk_drewN ?_ _ | refine blk_drew ?_ | refine blk_alloc ?_ _)); refine blk_put (cs := #[.int .i64 0, .int .i64 0, .int .i64 0, .int .i64 0, .int .i64 0, .int .i64 0, .int .i64 0, .int .i64 0, .int .i64 0, .int .i64 0, .int .i64 0, .int .i64 0]) ?_ 0 _ rfl; (with_reducible repeat (first | refine blk_drewN ?_ _ | refine blk_drew ?_ | refine blk_alloc ?_ _)); exact BK173.out⟩, ⟨by repeat (first | (with_reducible first | exact HB.out | apply below_alloc | apply pw_below_drewN | apply below_drew1 | refine below_set ?_ GE154.out | refine below_set ?_ GE173.out) | exact HB.out)⟩⟩
        ·
         rw [if_neg c74] at H
         have c74b0 : (t193 == 0) = false := beq_eq_false_iff_ne.mpr c74
         have c74b1 : (t193 != 0) = true := bne_iff_ne.mpr c74
         (first | rw [c74b0] | (simp only [i64_w, i32_w]; rw [c74b0]) | skip)
         replace H := Option.bind_eq_some_iff.mp H
         obtain ⟨t194, A750, H⟩ := H
         replace H : (arrearslaw8_LedgerBalanced.j3 k1 l0 x4_1 (!t194) t181 t182 t183 t184 t185 t186 t187 t188 t189 t190 t191 t192) = some r := H
         have A75 := Aside0.mk A750
         clear A750
         have H' := Aside0.mk H
         clear H
         have hnb76 := NB154_173.out
         have hnc76 := NB173_154.out
         have hcz77_0 : w71.cell? ⟨gb154, 0, none⟩ = some (.int .i64 x155000_1) := (blk_cell BK154.out 0).trans rfl
         have hcz77_1 : w71.cell? ⟨gb154, 1, none⟩ = some (.int .i64 x155001_1) := (blk_cell BK154.out 1).trans rfl
         have hcz77_2 : w71.cell? ⟨gb154, 2, none⟩ = some (.int .i64 x155002_1) := (blk_cell BK154.out 2).trans rfl
         have hcz77_3 : w71.cell? ⟨gb154, 3, none⟩ = some (.int .i64 x155003_1) := (blk_cell BK154.out 3).trans rfl
         have hcz77_4 : w71.cell? ⟨gb154, 4, none⟩ = some (.int .i64 x155004_1) := (blk_cell BK154.out 4).trans rfl
         have hcz77_5 : w71.cell? ⟨gb154, 5, none⟩ = some (.int .i64 x155005_1) := (blk_cell BK154.out 5).trans rfl
         have hcz77_6 : w71.cell? ⟨gb154, 6, none⟩ = some (.int .i64 x155006_1) := (blk_cell BK154.out 6).trans rfl
         have hcz77_7 : w71.cell? ⟨gb154, 7, none⟩ = some (.int .i64 x155007_1) := (blk_cell BK154.out 7).trans rfl
         have hcz77_8 : w71.cell? ⟨gb154, 8, none⟩ = some (.int .i64 x155008_1) := (blk_cell BK154.out 8).trans rfl
         have hcz77_9 : w71.cell? ⟨gb154, 9, none⟩ = some (.int .i64 x155009_1) := (blk_cell BK154.out 9).trans rfl
         have hcz77_10 : w71.cell? ⟨gb154, 10, none⟩ = some (.int .i64 x155010_1) := (blk_cell BK154.out 10).trans rfl
         have hcz77_11 : w71.cell? ⟨gb154, 11, none⟩ = some (.int .i64 x155011_1) := (blk_cell BK154.out 11).trans rfl
         have hfz77_0 := blk_frozen BK154.out 0
         have hfz77_1 := blk_frozen BK154.out 1
         have hfz77_2 := blk_frozen BK154.out 2
         have hfz77_3 := blk_frozen BK154.out 3
         have hfz77_4 := blk_frozen BK154.out 4
         have hfz77_5 := blk_frozen BK154.out 5
         have hfz77_6 := blk_frozen BK154.out 6
         have hfz77_7 := blk_frozen BK154.out 7
         have hfz77_8 := blk_frozen BK154.out 8
         have hfz77_9 := blk_frozen BK154.out 9
         have hfz77_10 := blk_frozen BK154.out 10
         have hfz77_11 := blk_frozen BK154.out 11
         have hcz78_0 : w71.cell? ⟨gb173, 0, none⟩ = some (.int .i64 0) := (blk_cell BK173.out 0).trans rfl
         have hcz78_1 : w71.cell? ⟨gb173, 1, none⟩ = some (.int .i64 0) := (blk_cell BK173.out 1).trans rfl
         have hcz78_2 : w71.cell? ⟨gb173, 2, none⟩ = some (.int .i64 0) := (blk_cell BK173.out 2).trans rfl
         have hcz78_3 : w71.cell? ⟨gb173, 3, none⟩ = some (.int .i64 0) := (blk_cell BK173.out 3).trans rfl
         have hcz78_4 : w71.cell? ⟨gb173, 4, none⟩ = some (.int .i64 0) := (blk_cell BK173.out 4).trans rfl
         have hcz78_5 : w71.cell? ⟨gb173, 5, none⟩ = some (.int .i64 0) := (blk_cell BK173.out 5).trans rfl
         have hcz78_6 : w71.cell? ⟨gb173, 6, none⟩ = some (.int .i64 0) := (blk_cell BK173.out 6).trans rfl
         have hcz78_7 : w71.cell? ⟨gb173, 7, none⟩ = some (.int .i64 0) := (blk_cell BK173.out 7).trans rfl
         have hcz78_8 : w71.cell? ⟨gb173, 8, none⟩ = some (.int .i64 0) := (blk_cell BK173.out 8).trans rfl
         have hcz78_9 : w71.cell? ⟨gb173, 9, none⟩ = some (.int .i64 0) := (blk_cell BK173.out 9).trans rfl
         have hcz78_10 : w71.cell? ⟨gb173, 10, none⟩ = some (.int .i64 0) := (blk_cell BK173.out 10).trans rfl
         have hcz78_11 : w71.cell? ⟨gb173, 11, none⟩ = some (.int .i64 0) := (blk_cell BK173.out 11).trans rfl
         have hfz78_0 := blk_frozen BK173.out 0
         have hfz78_1 := blk_frozen BK173.out 1
         have hfz78_2 := blk_frozen BK173.out 2
         have hfz78_3 := blk_frozen BK173.out 3
         have hfz78_4 := blk_frozen BK173.out 4
         have hfz78_5 := blk_frozen BK173.out 5
         have hfz78_6 := blk_frozen BK173.out 6
         have hfz78_7 := blk_frozen BK173.out 7
         have hfz78_8 := blk_frozen BK173.out 8
         have hfz78_9 := blk_frozen BK173.out 9
         have hfz78_10 := blk_frozen BK173.out 10
         have hfz78_11 := blk_frozen BK173.out 11
         go_wp2_with (first | (go_at_call 19; (with_reducible refine (arrearslaw8_same.calls k1 x155000_1 x155001_1 x155002_1 x155003_1 x155004_1 x155005_1 x155006_1 x155007_1 x155008_1 x155009_1 x155010_1 x155011_1 t181 t182 t183 t184 t185 t186 t187 t188 t189 t190 t191 t192 t194 _ A75.out).mono ?_); rintro e w79 ⟨rfl, hb⟩; have n0_ := Aside0.mk (blk_below (g := gb154) (o := .cells #[.int .i64 x155000_1, .int .i64 x155001_1, .int .i64 x155002_1, .int .i64 x155003_1, .int .i64 x155004_1, .int .i64 x155005_1, .int .i64 x155006_1, .int .i64 x155007_1, .int .i64 x155008_1, .int .i64 x155009_1, .int .i64 x155010_1, .int .i64 x155011_1] 24 (0, 0)) (by (with_reducible repeat (first | refine blk_drewN ?_ _ | refine blk_drew ?_ | refine blk_alloc ?_ _)); refine blk_far ?_ NB154_173.out _; (with_reducible repeat (first | refine blk_drewN ?_ _ | refine blk_drew ?_ | refine blk_alloc ?_ _)); refine blk_far ?_ NB154_173.out _; (with_reducible repeat (first | refine blk_drewN ?_ _ | refine blk_drew ?_ | refine blk_alloc ?_ _)); refine blk_far ?_ NB154_173.out _; (with_reducible repeat (first | refine blk_drewN ?_ _ | refine blk_drew ?_ | refine blk_alloc ?_ _)); refine blk_far ?_ NB154_173.out _; (with_reducible repeat (first | refine blk_drewN ?_ _ | refine blk_drew ?_ | refine blk_alloc ?_ _)); refine blk_far ?_ NB154_173.out _; (with_reducible repeat (first | refine blk_drewN ?_ _ | refine blk_drew ?_ | refine blk_alloc ?_ _)); refine blk_far ?_ NB154_173.out _; (with_reducible repeat (first | refine blk_drewN ?_ _ | refine blk_drew ?_ | refine blk_alloc ?_ _)); refine blk_far ?_ NB154_173.out _; (with_reducible repeat (first | refine blk_drewN ?_ _ | refine blk_drew ?_ | refine blk_alloc ?_ _)); refine blk_far ?_ NB154_173.out _; (with_reducible repeat (first | refine blk_drewN ?_ _ | refine blk_drew ?_ | refine blk_alloc ?_ _)); refine blk_far ?_ NB154_173.out _; (with_reducible repeat (first | refine blk_drewN ?_ _ | refine blk_drew ?_ | refine blk_alloc ?_ _)); refine blk_far ?_ NB154_173.out _; (with_reducible repeat (first | refine blk_drewN ?_ _ | refine blk_drew ?_ | refine blk_alloc ?_ _)); refine blk_far ?_ NB154_173.out _; (with_reducible repeat (first | refine blk_drewN ?_ _ | refine blk_drew ?_ | refine blk_alloc ?_ _)); refine blk_far ?_ NB154_173.out _; (with_reducible repeat (first | refine blk_drewN ?_ _ | refine blk_drew ?_ | refine blk_alloc ?_ _)); exact BK154.out) hb); have n1_ := Aside0.mk (blk_below (g := gb173) (o := .cells #[.int .i64 t181, .int .i64 t182, .int .i64 t183, .int .i64 t184, .int .i64 t185, .int .i64 t186, .int .i64 t187, .int .i64 t188, .int .i64 t189, .int .i64 t190, .int .i64 t191, .int .i64 t192] 24 (0, 0)) (by (with_reducible repeat (first | refine blk_drewN ?_ _ | refine blk_drew ?_ | refine blk_alloc ?_ _)); refine blk_put (cs := #[.int .i64 t181, .int .i64 t182, .int .i64 t183, .int .i64 t184, .int .i64 t185, .int .i64 t186, .int .i64 t187, .int .i64 t188, .int .i64 t189, .int .i64 t190, .int .i64 t191, .int .i64 0]) ?_ 11 _ rfl; (with_reducible repeat (first | refine blk_drewN ?_ _ | refine blk_drew ?_ | refine blk_alloc ?_ _)); refine blk_put (cs := #[.int .i64 t181, .int .i64 t182, .int .i64 t183, .int .i64 t184, .int .i64 t185, .int .i64 t186, .int .i64 t187, .int .i64 t188, .int .i64 t189, .int .i64 t190, .int .i64 0, .int .i64 0]) ?_ 10 _ rfl; (with_reducible repeat (first | refine blk_drewN ?_ _ | refine blk_drew ?_ | refine blk_alloc ?_ _)); refine blk_put (cs := #[.int .i64 t181, .int .i64 t182, .int .i64 t183, .int .i64 t184, .int .i64 t185, .int .i64 t186, .int .i64 t187, .int .i64 t188, .int .i64 t189, .int .i64 0, .int .i64 0, .int .i64 0]) ?_ 9 _ rfl; (with_reducible repeat (first | refine blk_drewN ?_ _ | refine blk_drew ?_ | refine blk_alloc ?_ _)); refine blk_put (cs := #[.int .i64 t181, .int .i64 t182, .int .i64 t183, .int .i64 t184, .int .i64 t185, .int .i64 t186, .int .i64 t187, .int .i64 t188, .int .i64 0, .int .i64 0, .int .i64 0, .int .i64 0]) ?_ 8 _ rfl; (with_reducible repeat (first | refine blk_drewN ?_ _ | refine blk_drew ?_ | refine blk_alloc ?_ _)); refine blk_put (cs := #[.int .i64 t181, .int .i64 t182, .int .i64 t183, .int .i64 t184, .int .i64 t185, .int .i64 t186, .int .i64 t187, .int .i64 0, .int .i64 0, .int .i64 0, .int .i64 0, .int .i64 0]) ?_ 7 _ rfl; (with_reducible repeat (first | refine blk_drewN ?_ _ | refine blk_drew ?_ | refine blk_alloc ?_ _)); refine blk_put (cs := #[.int .i64 t181, .int .i64 t182, .int .i64 t183, .int .i64 t184, .int .i64 t185, .int .i64 t186, .int .i64 0, .int .i64 0, .int .i64 0, .int .i64 0, .int .i64 0, .int .i64 0]) ?_ 6 _ rfl; (with_reducible repeat (first | refine blk_drewN ?_ _ | refine blk_drew ?_ | refine blk_alloc ?_ _)); refine blk_put (cs := #[.int .i64 t181, .int .i64 t182, .int .i64 t183, .int .i64 t184, .int .i64 t185, .int .i64 0, .int .i64 0, .int .i64 0, .int .i64 0, .int .i64 0, .int .i64 0, .int .i64 0]) ?_ 5 _ rfl; (with_reducible repeat (first | refine blk_drewN ?_ _ | refine blk_drew ?_ | refine blk_alloc ?_ _)); refine blk_put (cs := #[.int .i64 t181, .int .i64 t182, .int .i64 t183, .int .i64 t184, .int .i64 0, .int .i64 0, .int .i64 0, .int .i64 0, .int .i64 0, .int .i64 0, .int .i64 0, .int .i64 0]) ?_ 4 _ rfl; (with_reducible repeat (first | refine blk_drewN ?_ _ | refine blk_drew ?_ | refine blk_alloc ?_ _)); refine blk_put (cs := #[.int .i64 t181, .int .i64 t182, .int .i64 t183, .int .i64 0, .int .i64 0, .int .i64 0, .int .i64 0, .int .i64 0, .int .i64 0, .int .i64 0, .int .i64 0, .int .i64 0]) ?_ 3 _ rfl; (with_reducible repeat (first | refine blk_drewN ?_ _ | refine blk_drew ?_ | refine blk_alloc ?_ _)); refine blk_put (cs := #[.int .i64 t181, .int .i64 t182, .int .i64 0, .int .i64 0, .int .i64 0, .int .i64 0, .int .i64 0, .int .i64 0, .int .i64 0, .int .i64 0, .int .i64 0, .int .i64 0]) ?_ 2 _ rfl; (with_reducible repeat (first | refine blk_drewN ?_ _ | refine blk_drew ?_ | refine blk_alloc ?_ _)); refine blk_put (cs := #[.int .i64 t181, .int .i64 0, .int .i64 0, .int .i64 0, .int .i64 0, .int .i64 0, .int .i64 0, .int .i64 0, .int .i64 0, .int .i64 0, .int .i64 0, .int .i64 0]) ?_ 1 _ rfl; (with_reducible repeat (first | refine blk_drewN ?_ _ | refine blk_drew ?_ | refine blk_alloc ?_ _)); refine blk_put (cs := #[.int .i64 0, .int .i64 0, .int .i64 0, .int .i64 0, .int .i64 0, .int .i64 0, .int .i64 0, .int .i64 0, .int .i64 0, .int .i64 0, .int .i64 0, .int .i64 0]) ?_ 0 _ rfl; (with_reducible repeat (first | refine blk_drewN ?_ _ | refine blk_drew ?_ | refine blk_alloc ?_ _)); exact BK173.out) hb); have n2_ := Aside0.mk (below_step (by repeat (first | (with_reducible first | exact HB.out | apply below_alloc | apply pw_below_drewN | apply below_drew1 | refine below_set ?_ GE154.out | refine below_set ?_ GE173.out) | exact HB.out)) hb); clear BK154; clear BK173; clear HB; have BK154 := n0_; have BK173 := n1_; have HB := n2_; clear n0_ n1_ n2_; (try clear hb); (try clear hb2); (try clear hk); (try clear hi)))
         go_meet
         case rel => exact ⟨_, (!t194), (by first | rfl | (simp; done) | (simp [*]; done)), H', ⟨by have := HK1.out; first | omega | exact Nat.le_refl _⟩, ⟨by (with_reducible repeat (first | refine blk_drewN ?_ _ | refine blk_drew ?_ | refine blk_alloc ?_ _)); exact BK154.out⟩, ⟨by (with_reducible repeat (first | refine blk_drewN ?_ _ | refine blk_drew ?_ | refine blk_alloc ?_ _)); exact BK173.out⟩, ⟨by repeat (first | (with_reducible first | exact HB.out | apply below_alloc | apply pw_below_drewN | apply below_drew1 | refine below_set ?_ GE154.out | refine below_set ?_ GE173.out) | exact HB.out)⟩⟩
       case rest =>
        clear HC68
        try clear c1
        try clear p1
        try clear q1
        try clear hx1
        try clear c2
        try clear p2
        try clear c3
        try clear c4
        try clear c5
        try clear c6
        try clear c6b0
        try clear p6
        try clear c7
        try clear c7b0
        try clear c8
        try clear c8b0
        try clear c8b1
        try clear c10
        try clear c10b0
        try clear c11
        try clear c11b0
        try clear c15
        try clear p15
        try clear q15
        try clear hx15
        try clear c17
        try clear p17
        try clear q17
        try clear c20
        try clear c22
        try clear c22b0
        try clear c22b1
        try clear c24
        try clear c27
        try clear c28
        try clear c29
        try clear c33
        try clear c33b0
        try clear c34
        try clear c34b0
        try clear c42
        try clear c44
        try clear c45
        try clear c46
        try clear c46b0
        try clear c46b1
        try clear c47
        try clear c48
        try clear c51
        try clear c56
        try clear c56b0
        try clear c56b1
        try clear c57
        try clear c57b0
        try clear c57b1
        try clear c58
        try clear c59
        try clear c62
        try clear p64
        try clear c72
        try clear c74
        try clear c74b0
        try clear c74b1
        try clear c76
        try clear hcz16_0
        try clear hcz16_1
        try clear hcz16_10
        try clear hcz16_11
        try clear hcz16_2
        try clear hcz16_3
        try clear hcz16_4
        try clear hcz16_5
        try clear hcz16_6
        try clear hcz16_7
        try clear hcz16_8
        try clear hcz16_9
        try clear hcz21_0
        try clear hcz21_1
        try clear hcz21_10
        try clear hcz21_11
        try clear hcz21_2
        try clear hcz21_3
        try clear hcz21_4
        try clear hcz21_5
        try clear hcz21_6
        try clear hcz21_7
        try clear hcz21_8
        try clear hcz21_9
        try clear hcz25_0
        try clear hcz25_1
        try clear hcz25_10
        try clear hcz25_11
        try clear hcz25_2
        try clear hcz25_3
        try clear hcz25_4
        try clear hcz25_5
        try clear hcz25_6
        try clear hcz25_7
        try clear hcz25_8
        try clear hcz25_9
        try clear hcz26_0
        try clear hcz26_1
        try clear hcz26_10
        try clear hcz26_11
        try clear hcz26_2
        try clear hcz26_3
        try clear hcz26_4
        try clear hcz26_5
        try clear hcz26_6
        try clear hcz26_7
        try clear hcz26_8
        try clear hcz26_9
        try clear hcz30_0
        try clear hcz30_1
        try clear hcz30_10
        try clear hcz30_11
        try clear hcz30_2
        try clear hcz30_3
        try clear hcz30_4
        try clear hcz30_5
        try clear hcz30_6
        try clear hcz30_7
        try clear hcz30_8
        try clear hcz30_9
        try clear hcz31_0
        try clear hcz31_1
        try clear hcz31_10
        try clear hcz31_11
        try clear hcz31_2
        try clear hcz31_3
        try clear hcz31_4
        try clear hcz31_5
        try clear hcz31_6
        try clear hcz31_7
        try clear hcz31_8
        try clear hcz31_9
        try clear hcz49_0
        try clear hcz49_1
        try clear hcz49_10
        try clear hcz49_11
        try clear hcz49_2
        try clear hcz49_3
        try clear hcz49_4
        try clear hcz49_5
        try clear hcz49_6
        try clear hcz49_7
        try clear hcz49_8
        try clear hcz49_9
        try clear hcz52_0
        try clear hcz52_1
        try clear hcz54_0
        try clear hcz54_1
        try clear hcz54_10
        try clear hcz54_11
        try clear hcz54_2
        try clear hcz54_3
        try clear hcz54_4
        try clear hcz54_5
        try clear hcz54_6
        try clear hcz54_7
        try clear hcz54_8
        try clear hcz54_9
        try clear hcz60_0
        try clear hcz60_1
        try clear hcz60_10
        try clear hcz60_11
        try clear hcz60_2
        try clear hcz60_3
        try clear hcz60_4
        try clear hcz60_5
        try clear hcz60_6
        try clear hcz60_7
        try clear hcz60_8
        try clear hcz60_9
        try clear hcz63_0
        try clear hcz63_1
        try clear hcz65_0
        try clear hcz65_1
        try clear hcz65_10
        try clear hcz65_11
        try clear hcz65_2
        try clear hcz65_3
        try clear hcz65_4
        try clear hcz65_5
        try clear hcz65_6
        try clear hcz65_7
        try clear hcz65_8
        try clear hcz65_9
        try clear hcz69_0
        try clear hcz69_1
        try clear hcz69_10
        try clear hcz69_11
        try clear hcz69_2
        try clear hcz69_3
        try clear hcz69_4
        try clear hcz69_5
        try clear hcz69_6
        try clear hcz69_7
        try clear hcz69_8
        try clear hcz69_9
        try clear hcz73_0
        try clear hcz73_1
        try clear hcz73_10
        try clear hcz73_11
        try clear hcz73_2
        try clear hcz73_3
        try clear hcz73_4
        try clear hcz73_5
        try clear hcz73_6
        try clear hcz73_7
        try clear hcz73_8
        try clear hcz73_9
        try clear hcz77_0
        try clear hcz77_1
        try clear hcz77_10
        try clear hcz77_11
        try clear hcz77_2
        try clear hcz77_3
        try clear hcz77_4
        try clear hcz77_5
        try clear hcz77_6
        try clear hcz77_7
        try clear hcz77_8
        try clear hcz77_9
        try clear hcz78_0
        try clear hcz78_1
        try clear hcz78_10
        try clear hcz78_11
        try clear hcz78_2
        try clear hcz78_3
        try clear hcz78_4
        try clear hcz78_5
        try clear hcz78_6
        try clear hcz78_7
        try clear hcz78_8
        try clear hcz78_9
        try clear hfz16_0
        try clear hfz16_1
        try clear hfz16_10
        try clear hfz16_11
        try clear hfz16_2
        try clear hfz16_3
        try clear hfz16_4
        try clear hfz16_5
        try clear hfz16_6
        try clear hfz16_7
        try clear hfz16_8
        try clear hfz16_9
        try clear hfz21_0
        try clear hfz21_1
        try clear hfz21_10
        try clear hfz21_11
        try clear hfz21_2
        try clear hfz21_3
        try clear hfz21_4
        try clear hfz21_5
        try clear hfz21_6
        try clear hfz21_7
        try clear hfz21_8
        try clear hfz21_9
        try clear hfz25_0
        try clear hfz25_1
        try clear hfz25_10
        try clear hfz25_11
        try clear hfz25_2
        try clear hfz25_3
        try clear hfz25_4
        try clear hfz25_5
        try clear hfz25_6
        try clear hfz25_7
        try clear hfz25_8
        try clear hfz25_9
        try clear hfz26_0
        try clear hfz26_1
        try clear hfz26_10
        try clear hfz26_11
        try clear hfz26_2
        try clear hfz26_3
        try clear hfz26_4
        try clear hfz26_5
        try clear hfz26_6
        try clear hfz26_7
        try clear hfz26_8
        try clear hfz26_9
        try clear hfz30_0
        try clear hfz30_1
        try clear hfz30_10
        try clear hfz30_11
        try clear hfz30_2
        try clear hfz30_3
        try clear hfz30_4
        try clear hfz30_5
        try clear hfz30_6
        try clear hfz30_7
        try clear hfz30_8
        try clear hfz30_9
        try clear hfz31_0
        try clear hfz31_1
        try clear hfz31_10
        try clear hfz31_11
        try clear hfz31_2
        try clear hfz31_3
        try clear hfz31_4
        try clear hfz31_5
        try clear hfz31_6
        try clear hfz31_7
        try clear hfz31_8
        try clear hfz31_9
        try clear hfz49_0
        try clear hfz49_1
        try clear hfz49_10
        try clear hfz49_11
        try clear hfz49_2
        try clear hfz49_3
        try clear hfz49_4
        try clear hfz49_5
        try clear hfz49_6
        try clear hfz49_7
        try clear hfz49_8
        try clear hfz49_9
        try clear hfz52_0
        try clear hfz52_1
        try clear hfz54_0
        try clear hfz54_1
        try clear hfz54_10
        try clear hfz54_11
        try clear hfz54_2
        try clear hfz54_3
        try clear hfz54_4
        try clear hfz54_5
        try clear hfz54_6
        try clear hfz54_7
        try clear hfz54_8
        try clear hfz54_9
        try clear hfz60_0
        try clear hfz60_1
        try clear hfz60_10
        try clear hfz60_11
        try clear hfz60_2
        try clear hfz60_3
        try clear hfz60_4
        try clear hfz60_5
        try clear hfz60_6
        try clear hfz60_7
        try clear hfz60_8
        try clear hfz60_9
        try clear hfz63_0
        try clear hfz63_1
        try clear hfz65_0
        try clear hfz65_1
        try clear hfz65_10
        try clear hfz65_11
        try clear hfz65_2
        try clear hfz65_3
        try clear hfz65_4
        try clear hfz65_5
        try clear hfz65_6
        try clear hfz65_7
        try clear hfz65_8
        try clear hfz65_9
        try clear hfz69_0
        try clear hfz69_1
        try clear hfz69_10
        try clear hfz69_11
        try clear hfz69_2
        try clear hfz69_3
        try clear hfz69_4
        try clear hfz69_5
        try clear hfz69_6
        try clear hfz69_7
        try clear hfz69_8
        try clear hfz69_9
        try clear hfz73_0
        try clear hfz73_1
        try clear hfz73_10
        try clear hfz73_11
        try clear hfz73_2
        try clear hfz73_3
        try clear hfz73_4
        try clear hfz73_5
        try clear hfz73_6
        try clear hfz73_7
        try clear hfz73_8
        try clear hfz73_9
        try clear hfz77_0
        try clear hfz77_1
        try clear hfz77_10
        try clear hfz77_11
        try clear hfz77_2
        try clear hfz77_3
        try clear hfz77_4
        try clear hfz77_5
        try clear hfz77_6
        try clear hfz77_7
        try clear hfz77_8
        try clear hfz77_9
        try clear hfz78_0
        try clear hfz78_1
        try clear hfz78_10
        try clear hfz78_11
        try clear hfz78_2
        try clear hfz78_3
        try clear hfz78_4
        try clear hfz78_5
        try clear hfz78_6
        try clear hfz78_7
        try clear hfz78_8
        try clear hfz78_9
        try clear hx154_0
        try clear hx155_0
        try clear p1
        try clear p15
        try clear p154
        try clear p155
        try clear p173
        try clear p2
        try clear p6
        try clear q1
        try clear q15
        try clear q154
        try clear q155
        try clear q173
        obtain ⟨kq, x47_67, rfl, HA, HJ67, BK154, BK173, HB⟩ := hcut
        cases kq with
        | zero => exact absurd HA.out (by simp [arrearslaw8_LedgerBalanced.j3])
        | succ kj67 =>
         have H := HA.out
         clear HA
         simp only [arrearslaw8_LedgerBalanced.j3] at H
         by_cases c80 : x47_67 = true
         ·
          subst c80
          have H1 : (none) = some r := by rw [if_pos rfl] at H; exact H
          clear H
          have H := H1
          clear H1
          exact absurd H (by simp)
         ·
          replace c80 := Bool.eq_false_iff.mpr c80
          subst c80
          have H1 : (arrearslaw8_LedgerBalanced.l1 kj67 l0 x4_1 0 t181 t182 t183 t184 t185 t186 t187 t188 t189 t190 t191 t192 0 0) = some r := by rw [if_neg (show ¬ (false = true) by decide)] at H; exact H
          clear H
          have H := H1
          clear H1
          have H' := Aside0.mk H
          clear H
          have hnb81 := NB173_154.out
          have hnc81 := NB154_173.out
          have hcz82_0 : wc.cell? ⟨gb173, 0, none⟩ = some (.int .i64 t181) := (blk_cell BK173.out 0).trans rfl
          have hcz82_1 : wc.cell? ⟨gb173, 1, none⟩ = some (.int .i64 t182) := (blk_cell BK173.out 1).trans rfl
          have hcz82_2 : wc.cell? ⟨gb173, 2, none⟩ = some (.int .i64 t183) := (blk_cell BK173.out 2).trans rfl
          have hcz82_3 : wc.cell? ⟨gb173, 3, none⟩ = some (.int .i64 t184) := (blk_cell BK173.out 3).trans rfl
          have hcz82_4 : wc.cell? ⟨gb173, 4, none⟩ = some (.int .i64 t185) := (blk_cell BK173.out 4).trans rfl
          have hcz82_5 : wc.cell? ⟨gb173, 5, none⟩ = some (.int .i64 t186) := (blk_cell BK173.out 5).trans rfl
          have hcz82_6 : wc.cell? ⟨gb173, 6, none⟩ = some (.int .i64 t187) := (blk_cell BK173.out 6).trans rfl
          have hcz82_7 : wc.cell? ⟨gb173, 7, none⟩ = some (.int .i64 t188) := (blk_cell BK173.out 7).trans rfl
          have hcz82_8 : wc.cell? ⟨gb173, 8, none⟩ = some (.int .i64 t189) := (blk_cell BK173.out 8).trans rfl
          have hcz82_9 : wc.cell? ⟨gb173, 9, none⟩ = some (.int .i64 t190) := (blk_cell BK173.out 9).trans rfl
          have hcz82_10 : wc.cell? ⟨gb173, 10, none⟩ = some (.int .i64 t191) := (blk_cell BK173.out 10).trans rfl
          have hcz82_11 : wc.cell? ⟨gb173, 11, none⟩ = some (.int .i64 t192) := (blk_cell BK173.out 11).trans rfl
          have hfz82_0 := blk_frozen BK173.out 0
          have hfz82_1 := blk_frozen BK173.out 1
          have hfz82_2 := blk_frozen BK173.out 2
          have hfz82_3 := blk_frozen BK173.out 3
          have hfz82_4 := blk_frozen BK173.out 4
          have hfz82_5 := blk_frozen BK173.out 5
          have hfz82_6 := blk_frozen BK173.out 6
          have hfz82_7 := blk_frozen BK173.out 7
          have hfz82_8 := blk_frozen BK173.out 8
          have hfz82_9 := blk_frozen BK173.out 9
          have hfz82_10 := blk_frozen BK173.out 10
          have hfz82_11 := blk_frozen BK173.out 11
          have hcz83_0 : wc.cell? ⟨gb154, 0, none⟩ = some (.int .i64 x155000_1) := (blk_cell BK154.out 0).trans rfl
          have hcz83_1 : wc.cell? ⟨gb154, 1, none⟩ = some (.int .i64 x155001_1) := (blk_cell BK154.out 1).trans rfl
          have hcz83_2 : wc.cell? ⟨gb154, 2, none⟩ = some (.int .i64 x155002_1) := (blk_cell BK154.out 2).trans rfl
          have hcz83_3 : wc.cell? ⟨gb154, 3, none⟩ = some (.int .i64 x155003_1) := (blk_cell BK154.out 3).trans rfl
          have hcz83_4 : wc.cell? ⟨gb154, 4, none⟩ = some (.int .i64 x155004_1) := (blk_cell BK154.out 4).trans rfl
          have hcz83_5 : wc.cell? ⟨gb154, 5, none⟩ = some (.int .i64 x155005_1) := (blk_cell BK154.out 5).trans rfl
          have hcz83_6 : wc.cell? ⟨gb154, 6, none⟩ = some (.int .i64 x155006_1) := (blk_cell BK154.out 6).trans rfl
          have hcz83_7 : wc.cell? ⟨gb154, 7, none⟩ = some (.int .i64 x155007_1) := (blk_cell BK154.out 7).trans rfl
          have hcz83_8 : wc.cell? ⟨gb154, 8, none⟩ = some (.int .i64 x155008_1) := (blk_cell BK154.out 8).trans rfl
          have hcz83_9 : wc.cell? ⟨gb154, 9, none⟩ = some (.int .i64 x155009_1) := (blk_cell BK154.out 9).trans rfl
          have hcz83_10 : wc.cell? ⟨gb154, 10, none⟩ = some (.int .i64 x155010_1) := (blk_cell BK154.out 10).trans rfl
          have hcz83_11 : wc.cell? ⟨gb154, 11, none⟩ = some (.int .i64 x155011_1) := (blk_cell BK154.out 11).trans rfl
          have hfz83_0 := blk_frozen BK154.out 0
          have hfz83_1 := blk_frozen BK154.out 1
          have hfz83_2 := blk_frozen BK154.out 2
          have hfz83_3 := blk_frozen BK154.out 3
          have hfz83_4 := blk_frozen BK154.out 4
          have hfz83_5 := blk_frozen BK154.out 5
          have hfz83_6 := blk_frozen BK154.out 6
          have hfz83_7 := blk_frozen BK154.out 7
          have hfz83_8 := blk_frozen BK154.out 8
          have hfz83_9 := blk_frozen BK154.out 9
          have hfz83_10 := blk_frozen BK154.out 10
          have hfz83_11 := blk_frozen BK154.out 11
          go_wp2_with (first | ((with_reducible refine gate_dst (N := 8) rfl ?_); refine box_event ?hg (N := 8) ?hd (cs := #[.int .i64 0, .int .i64 0]) (t := 51) ?hr ?_; (case hd => rfl); (case hg => rfl); (case hr => first | (go_simp; done) | (go_simp; rfl)); intro gb175 hg w84 hbox hb; have n0_ := Aside0.mk (blk_below (g := gb154) (o := .cells #[.int .i64 t181, .int .i64 t182, .int .i64 t183, .int .i64 t184, .int .i64 t185, .int .i64 t186, .int .i64 t187, .int .i64 t188, .int .i64 t189, .int .i64 t190, .int .i64 t191, .int .i64 t192] 24 (0, 0)) (by (with_reducible repeat (first | refine blk_drewN ?_ _ | refine blk_drew ?_ | refine blk_alloc ?_ _)); refine blk_put (cs := #[.int .i64 t181, .int .i64 t182, .int .i64 t183, .int .i64 t184, .int .i64 t185, .int .i64 t186, .int .i64 t187, .int .i64 t188, .int .i64 t189, .int .i64 t190, .int .i64 t191, .int .i64 x155011_1]) ?_ 11 _ rfl; (with_reducible repeat (first | refine blk_drewN ?_ _ | refine blk_drew ?_ | refine blk_alloc ?_ _)); refine blk_put (cs := #[.int .i64 t181, .int .i64 t182, .int .i64 t183, .int .i64 t184, .int .i64 t185, .int .i64 t186, .int .i64 t187, .int .i64 t188, .int .i64 t189, .int .i64 t190, .int .i64 x155010_1, .int .i64 x155011_1]) ?_ 10 _ rfl; (with_reducible repeat (first | refine blk_drewN ?_ _ | refine blk_drew ?_ | refine blk_alloc ?_ _)); refine blk_put (cs := #[.int .i64 t181, .int .i64 t182, .int .i64 t183, .int .i64 t184, .int .i64 t185, .int .i64 t186, .int .i64 t187, .int .i64 t188, .int .i64 t189, .int .i64 x155009_1, .int .i64 x155010_1, .int .i64 x155011_1]) ?_ 9 _ rfl; (with_reducible repeat (first | refine blk_drewN ?_ _ | refine blk_drew ?_ | refine blk_alloc ?_ _)); refine blk_put (cs := #[.int .i64 t181, .int .i64 t182, .int .i64 t183, .int .i64 t184, .int .i64 t185, .int .i64 t186, .int .i64 t187, .int .i64 t188, .int .i64 x155008_1, .int .i64 x155009_1, .int .i64 x155010_1, .int .i64 x155011_1]) ?_ 8 _ rfl; (with_reducible repeat (first | refine blk_drewN ?_ _ | refine blk_drew ?_ | refine blk_alloc ?_ _)); refine blk_put (cs := #[.int .i64 t181, .int .i64 t182, .int .i64 t183, .int .i64 t184, .int .i64 t185, .int .i64 t186, .int .i64 t187, .int .i64 x155007_1, .int .i64 x155008_1, .int .i64 x155009_1, .int .i64 x155010_1, .int .i64 x155011_1]) ?_ 7 _ rfl; (with_reducible repeat (first | refine blk_drewN ?_ _ | refine blk_drew ?_ | refine blk_alloc ?_ _)); refine blk_put (cs := #[.int .i64 t181, .int .i64 t182, .int .i64 t183, .int .i64 t184, .int .i64 t185, .int .i64 t186, .int .i64 x155006_1, .int .i64 x155007_1, .int .i64 x155008_1, .int .i64 x155009_1, .int .i64 x155010_1, .int .i64 x155011_1]) ?_ 6 _ rfl; (with_reducible repeat (first | refine blk_drewN ?_ _ | refine blk_drew ?_ | refine blk_alloc ?_ _)); refine blk_put (cs := #[.int .i64 t181, .int .i64 t182, .int .i64 t183, .int .i64 t184, .int .i64 t185, .int .i64 x155005_1, .int .i64 x155006_1, .int .i64 x155007_1, .int .i64 x155008_1, .int .i64 x155009_1, .int .i64 x155010_1, .int .i64 x155011_1]) ?_ 5 _ rfl; (with_reducible repeat (first | refine blk_drewN ?_ _ | refine blk_drew ?_ | refine blk_alloc ?_ _)); refine blk_put (cs := #[.int .i64 t181, .int .i64 t182, .int .i64 t183, .int .i64 t184, .int .i64 x155004_1, .int .i64 x155005_1, .int .i64 x155006_1, .int .i64 x155007_1, .int .i64 x155008_1, .int .i64 x155009_1, .int .i64 x155010_1, .int .i64 x155011_1]) ?_ 4 _ rfl; (with_reducible repeat (first | refine blk_drewN ?_ _ | refine blk_drew ?_ | refine blk_alloc ?_ _)); refine blk_put (cs := #[.int .i64 t181, .int .i64 t182, .int .i64 t183, .int .i64 x155003_1, .int .i64 x155004_1, .int .i64 x155005_1, .int .i64 x155006_1, .int .i64 x155007_1, .int .i64 x155008_1, .int .i64 x155009_1, .int .i64 x155010_1, .int .i64 x155011_1]) ?_ 3 _ rfl; (with_reducible repeat (first | refine blk_drewN ?_ _ | refine blk_drew ?_ | refine blk_alloc ?_ _)); refine blk_put (cs := #[.int .i64 t181, .int .i64 t182, .int .i64 x155002_1, .int .i64 x155003_1, .int .i64 x155004_1, .int .i64 x155005_1, .int .i64 x155006_1, .int .i64 x155007_1, .int .i64 x155008_1, .int .i64 x155009_1, .int .i64 x155010_1, .int .i64 x155011_1]) ?_ 2 _ rfl; (with_reducible repeat (first | refine blk_drewN ?_ _ | refine blk_drew ?_ | refine blk_alloc ?_ _)); refine blk_put (cs := #[.int .i64 t181, .int .i64 x155001_1, .int .i64 x155002_1, .int .i64 x155003_1, .int .i64 x155004_1, .int .i64 x155005_1, .int .i64 x155006_1, .int .i64 x155007_1, .int .i64 x155008_1, .int .i64 x155009_1, .int .i64 x155010_1, .int .i64 x155011_1]) ?_ 1 _ rfl; (with_reducible repeat (first | refine blk_drewN ?_ _ | refine blk_drew ?_ | refine blk_alloc ?_ _)); refine blk_put (cs := #[.int .i64 x155000_1, .int .i64 x155001_1, .int .i64 x155002_1, .int .i64 x155003_1, .int .i64 x155004_1, .int .i64 x155005_1, .int .i64 x155006_1, .int .i64 x155007_1, .int .i64 x155008_1, .int .i64 x155009_1, .int .i64 x155010_1, .int .i64 x155011_1]) ?_ 0 _ rfl; (with_reducible repeat (first | refine blk_drewN ?_ _ | refine blk_drew ?_ | refine blk_alloc ?_ _)); exact BK154.out) hb); have n1_ := Aside0.mk (blk_below (g := gb173) (o := .cells #[.int .i64 t181, .int .i64 t182, .int .i64 t183, .int .i64 t184, .int .i64 t185, .int .i64 t186, .int .i64 t187, .int .i64 t188, .int .i64 t189, .int .i64 t190, .int .i64 t191, .int .i64 t192] 24 (0, 0)) (by (with_reducible repeat (first | refine blk_drewN ?_ _ | refine blk_drew ?_ | refine blk_alloc ?_ _)); refine blk_far ?_ NB173_154.out _; (with_reducible repeat (first | refine blk_drewN ?_ _ | refine blk_drew ?_ | refine blk_alloc ?_ _)); refine blk_far ?_ NB173_154.out _; (with_reducible repeat (first | refine blk_drewN ?_ _ | refine blk_drew ?_ | refine blk_alloc ?_ _)); refine blk_far ?_ NB173_154.out _; (with_reducible repeat (first | refine blk_drewN ?_ _ | refine blk_drew ?_ | refine blk_alloc ?_ _)); refine blk_far ?_ NB173_154.out _; (with_reducible repeat (first | refine blk_drewN ?_ _ | refine blk_drew ?_ | refine blk_alloc ?_ _)); refine blk_far ?_ NB173_154.out _; (with_reducible repeat (first | refine blk_drewN ?_ _ | refine blk_drew ?_ | refine blk_alloc ?_ _)); refine blk_far ?_ NB173_154.out _; (with_reducible repeat (first | refine blk_drewN ?_ _ | refine blk_drew ?_ | refine blk_alloc ?_ _)); refine blk_far ?_ NB173_154.out _; (with_reducible repeat (first | refine blk_drewN ?_ _ | refine blk_drew ?_ | refine blk_alloc ?_ _)); refine blk_far ?_ NB173_154.out _; (with_reducible repeat (first | refine blk_drewN ?_ _ | refine blk_drew ?_ | refine blk_alloc ?_ _)); refine blk_far ?_ NB173_154.out _; (with_reducible repeat (first | refine blk_drewN ?_ _ | refine blk_drew ?_ | refine blk_alloc ?_ _)); refine blk_far ?_ NB173_154.out _; (with_reducible repeat (first | refine blk_drewN ?_ _ | refine blk_drew ?_ | refine blk_alloc ?_ _)); refine blk_far ?_ NB173_154.out _; (with_reducible repeat (first | refine blk_drewN ?_ _ | refine blk_drew ?_ | refine blk_alloc ?_ _)); refine blk_far ?_ NB173_154.out _; (with_reducible repeat (first | refine blk_drewN ?_ _ | refine blk_drew ?_ | refine blk_alloc ?_ _)); exact BK173.out) hb); have n2_ := Aside0.mk (below_step (by repeat (first | (with_reducible first | exact HB.out | apply below_alloc | apply pw_below_drewN | apply below_drew1 | refine below_set ?_ GE154.out | refine below_set ?_ GE173.out) | exact HB.out)) hb); have n3_ := Aside0.mk (hbox); have n4_ := Aside0.mk ((by rw [hg]; exact (below_size (by repeat (first | (with_reducible first | exact HB.out | apply below_alloc | apply pw_below_drewN | apply below_drew1 | refine below_set ?_ GE154.out | refine below_set ?_ GE173.out) | exact HB.out))) : w.heap.size ≤ gb175)); have n5_ := Aside0.mk ((by rw [hg]; exact (below_size (by repeat (first | (with_reducible first | exact HB.out | apply below_alloc | apply pw_below_drewN | apply below_drew1 | refine below_set ?_ GE154.out | refine below_set ?_ GE173.out) | exact HB.out))) : w.heap.size ≤ gb175)); have n6_ := Aside0.mk ((by rw [hg]; exact Nat.ne_of_lt (blk_lt (g := gb154) (o := .cells #[.int .i64 t181, .int .i64 t182, .int .i64 t183, .int .i64 t184, .int .i64 t185, .int .i64 t186, .int .i64 t187, .int .i64 t188, .int .i64 t189, .int .i64 t190, .int .i64 t191, .int .i64 t192] 24 (0, 0)) (by (with_reducible repeat (first | refine blk_drewN ?_ _ | refine blk_drew ?_ | refine blk_alloc ?_ _)); refine blk_put (cs := #[.int .i64 t181, .int .i64 t182, .int .i64 t183, .int .i64 t184, .int .i64 t185, .int .i64 t186, .int .i64 t187, .int .i64 t188, .int .i64 t189, .int .i64 t190, .int .i64 t191, .int .i64 x155011_1]) ?_ 11 _ rfl; (with_reducible repeat (first | refine blk_drewN ?_ _ | refine blk_drew ?_ | refine blk_alloc ?_ _)); refine blk_put (cs := #[.int .i64 t181, .int .i64 t182, .int .i64 t183, .int .i64 t184, .int .i64 t185, .int .i64 t186, .int .i64 t187, .int .i64 t188, .int .i64 t189, .int .i64 t190, .int .i64 x155010_1, .int .i64 x155011_1]) ?_ 10 _ rfl; (with_reducible repeat (first | refine blk_drewN ?_ _ | refine blk_drew ?_ | refine blk_alloc ?_ _)); refine blk_put (cs := #[.int .i64 t181, .int .i64 t182, .int .i64 t183, .int .i64 t184, .int .i64 t185, .int .i64 t186, .int .i64 t187, .int .i64 t188, .int .i64 t189, .int .i64 x155009_1, .int .i64 x155010_1, .int .i64 x155011_1]) ?_ 9 _ rfl; (with_reducible repeat (first | refine blk_drewN ?_ _ | refine blk_drew ?_ | refine blk_alloc ?_ _)); refine blk_put (cs := #[.int .i64 t181, .int .i64 t182, .int .i64 t183, .int .i64 t184, .int .i64 t185, .int .i64 t186, .int .i64 t187, .int .i64 t188, .int .i64 x155008_1, .int .i64 x155009_1, .int .i64 x155010_1, .int .i64 x155011_1]) ?_ 8 _ rfl; (with_reducible repeat (first | refine blk_drewN ?_ _ | refine blk_drew ?_ | refine blk_alloc ?_ _)); refine blk_put (cs := #[.int .i64 t181, .int .i64 t182, .int .i64 t183, .int .i64 t184, .int .i64 t185, .int .i64 t186, .int .i64 t187, .int .i64 x155007_1, .int .i64 x155008_1, .int .i64 x155009_1, .int .i64 x155010_1, .int .i64 x155011_1]) ?_ 7 _ rfl; (with_reducible repeat (first | refine blk_drewN ?_ _ | refine blk_drew ?_ | refine blk_alloc ?_ _)); refine blk_put (cs := #[.int .i64 t181, .int .i64 t182, .int .i64 t183, .int .i64 t184, .int .i64 t185, .int .i64 t186, .int .i64 x155006_1, .int .i64 x155007_1, .int .i64 x155008_1, .int .i64 x155009_1, .int .i64 x155010_1, .int .i64 x155011_1]) ?_ 6 _ rfl; (with_reducible repeat (first | refine blk_drewN ?_ _ | refine blk_drew ?_ | refine blk_alloc ?_ _)); refine blk_put (cs := #[.int .i64 t181, .int .i64 t182, .int .i64 t183, .int .i64 t184, .int .i64 t185, .int .i64 x155005_1, .int .i64 x155006_1, .int .i64 x155007_1, .int .i64 x155008_1, .int .i64 x155009_1, .int .i64 x155010_1, .int .i64 x155011_1]) ?_ 5 _ rfl; (with_reducible repeat (first | refine blk_drewN ?_ _ | refine blk_drew ?_ | refine blk_alloc ?_ _)); refine blk_put (cs := #[.int .i64 t181, .int .i64 t182, .int .i64 t183, .int .i64 t184, .int .i64 x155004_1, .int .i64 x155005_1, .int .i64 x155006_1, .int .i64 x155007_1, .int .i64 x155008_1, .int .i64 x155009_1, .int .i64 x155010_1, .int .i64 x155011_1]) ?_ 4 _ rfl; (with_reducible repeat (first | refine blk_drewN ?_ _ | refine blk_drew ?_ | refine blk_alloc ?_ _)); refine blk_put (cs := #[.int .i64 t181, .int .i64 t182, .int .i64 t183, .int .i64 x155003_1, .int .i64 x155004_1, .int .i64 x155005_1, .int .i64 x155006_1, .int .i64 x155007_1, .int .i64 x155008_1, .int .i64 x155009_1, .int .i64 x155010_1, .int .i64 x155011_1]) ?_ 3 _ rfl; (with_reducible repeat (first | refine blk_drewN ?_ _ | refine blk_drew ?_ | refine blk_alloc ?_ _)); refine blk_put (cs := #[.int .i64 t181, .int .i64 t182, .int .i64 x155002_1, .int .i64 x155003_1, .int .i64 x155004_1, .int .i64 x155005_1, .int .i64 x155006_1, .int .i64 x155007_1, .int .i64 x155008_1, .int .i64 x155009_1, .int .i64 x155010_1, .int .i64 x155011_1]) ?_ 2 _ rfl; (with_reducible repeat (first | refine blk_drewN ?_ _ | refine blk_drew ?_ | refine blk_alloc ?_ _)); refine blk_put (cs := #[.int .i64 t181, .int .i64 x155001_1, .int .i64 x155002_1, .int .i64 x155003_1, .int .i64 x155004_1, .int .i64 x155005_1, .int .i64 x155006_1, .int .i64 x155007_1, .int .i64 x155008_1, .int .i64 x155009_1, .int .i64 x155010_1, .int .i64 x155011_1]) ?_ 1 _ rfl; (with_reducible repeat (first | refine blk_drewN ?_ _ | refine blk_drew ?_ | refine blk_alloc ?_ _)); refine blk_put (cs := #[.int .i64 x155000_1, .int .i64 x155001_1, .int .i64 x155002_1, .int .i64 x155003_1, .int .i64 x155004_1, .int .i64 x155005_1, .int .i64 x155006_1, .int .i64 x155007_1, .int .i64 x155008_1, .int .i64 x155009_1, .int .i64 x155010_1, .int .i64 x155011_1]) ?_ 0 _ rfl; (with_reducible repeat (first | refine blk_drewN ?_ _ | refine blk_drew ?_ | refine blk_alloc ?_ _)); exact BK154.out)) : gb154 ≠ gb175)); have n7_ := Aside0.mk ((by rw [hg]; exact Nat.ne_of_gt (blk_lt (g := gb154) (o := .cells #[.int .i64 t181, .int .i64 t182, .int .i64 t183, .int .i64 t184, .int .i64 t185, .int .i64 t186, .int .i64 t187, .int .i64 t188, .int .i64 t189, .int .i64 t190, .int .i64 t191, .int .i64 t192] 24 (0, 0)) (by (with_reducible repeat (first | refine blk_drewN ?_ _ | refine blk_drew ?_ | refine blk_alloc ?_ _)); refine blk_put (cs := #[.int .i64 t181, .int .i64 t182, .int .i64 t183, .int .i64 t184, .int .i64 t185, .int .i64 t186, .int .i64 t187, .int .i64 t188, .int .i64 t189, .int .i64 t190, .int .i64 t191, .int .i64 x155011_1]) ?_ 11 _ rfl; (with_reducible repeat (first | refine blk_drewN ?_ _ | refine blk_drew ?_ | refine blk_alloc ?_ _)); refine blk_put (cs := #[.int .i64 t181, .int .i64 t182, .int .i64 t183, .int .i64 t184, .int .i64 t185, .int .i64 t186, .int .i64 t187, .int .i64 t188, .int .i64 t189, .int .i64 t190, .int .i64 x155010_1, .int .i64 x155011_1]) ?_ 10 _ rfl; (with_reducible repeat (first | refine blk_drewN ?_ _ | refine blk_drew ?_ | refine blk_alloc ?_ _)); refine blk_put (cs := #[.int .i64 t181, .int .i64 t182, .int .i64 t183, .int .i64 t184, .int .i64 t185, .int .i64 t186, .int .i64 t187, .int .i64 t188, .int .i64 t189, .int .i64 x155009_1, .int .i64 x155010_1, .int .i64 x155011_1]) ?_ 9 _ rfl; (with_reducible repeat (first | refine blk_drewN ?_ _ | refine blk_drew ?_ | refine blk_alloc ?_ _)); refine blk_put (cs := #[.int .i64 t181, .int .i64 t182, .int .i64 t183, .int .i64 t184, .int .i64 t185, .int .i64 t186, .int .i64 t187, .int .i64 t188, .int .i64 x155008_1, .int .i64 x155009_1, .int .i64 x155010_1, .int .i64 x155011_1]) ?_ 8 _ rfl; (with_reducible repeat (first | refine blk_drewN ?_ _ | refine blk_drew ?_ | refine blk_alloc ?_ _)); refine blk_put (cs := #[.int .i64 t181, .int .i64 t182, .int .i64 t183, .int .i64 t184, .int .i64 t185, .int .i64 t186, .int .i64 t187, .int .i64 x155007_1, .int .i64 x155008_1, .int .i64 x155009_1, .int .i64 x155010_1, .int .i64 x155011_1]) ?_ 7 _ rfl; (with_reducible repeat (first | refine blk_drewN ?_ _ | refine blk_drew ?_ | refine blk_alloc ?_ _)); refine blk_put (cs := #[.int .i64 t181, .int .i64 t182, .int .i64 t183, .int .i64 t184, .int .i64 t185, .int .i64 t186, .int .i64 x155006_1, .int .i64 x155007_1, .int .i64 x155008_1, .int .i64 x155009_1, .int .i64 x155010_1, .int .i64 x155011_1]) ?_ 6 _ rfl; (with_reducible repeat (first | refine blk_drewN ?_ _ | refine blk_drew ?_ | refine blk_alloc ?_ _)); refine blk_put (cs := #[.int .i64 t181, .int .i64 t182, .int .i64 t183, .int .i64 t184, .int .i64 t185, .int .i64 x155005_1, .int .i64 x155006_1, .int .i64 x155007_1, .int .i64 x155008_1, .int .i64 x155009_1, .int .i64 x155010_1, .int .i64 x155011_1]) ?_ 5 _ rfl; (with_reducible repeat (first | refine blk_drewN ?_ _ | refine blk_drew ?_ | refine blk_alloc ?_ _)); refine blk_put (cs := #[.int .i64 t181, .int .i64 t182, .int .i64 t183, .int .i64 t184, .int .i64 x155004_1, .int .i64 x155005_1, .int .i64 x155006_1, .int .i64 x155007_1, .int .i64 x155008_1, .int .i64 x155009_1, .int .i64 x155010_1, .int .i64 x155011_1]) ?_ 4 _ rfl; (with_reducible repeat (first | refine blk_drewN ?_ _ | refine blk_drew ?_ | refine blk_alloc ?_ _)); refine blk_put (cs := #[.int .i64 t181, .int .i64 t182, .int .i64 t183, .int .i64 x155003_1, .int .i64 x155004_1, .int .i64 x155005_1, .int .i64 x155006_1, .int .i64 x155007_1, .int .i64 x155008_1, .int .i64 x155009_1, .int .i64 x155010_1, .int .i64 x155011_1]) ?_ 3 _ rfl; (with_reducible repeat (first | refine blk_drewN ?_ _ | refine blk_drew ?_ | refine blk_alloc ?_ _)); refine blk_put (cs := #[.int .i64 t181, .int .i64 t182, .int .i64 x155002_1, .int .i64 x155003_1, .int .i64 x155004_1, .int .i64 x155005_1, .int .i64 x155006_1, .int .i64 x155007_1, .int .i64 x155008_1, .int .i64 x155009_1, .int .i64 x155010_1, .int .i64 x155011_1]) ?_ 2 _ rfl; (with_reducible repeat (first | refine blk_drewN ?_ _ | refine blk_drew ?_ | refine blk_alloc ?_ _)); refine blk_put (cs := #[.int .i64 t181, .int .i64 x155001_1, .int .i64 x155002_1, .int .i64 x155003_1, .int .i64 x155004_1, .int .i64 x155005_1, .int .i64 x155006_1, .int .i64 x155007_1, .int .i64 x155008_1, .int .i64 x155009_1, .int .i64 x155010_1, .int .i64 x155011_1]) ?_ 1 _ rfl; (with_reducible repeat (first | refine blk_drewN ?_ _ | refine blk_drew ?_ | refine blk_alloc ?_ _)); refine blk_put (cs := #[.int .i64 x155000_1, .int .i64 x155001_1, .int .i64 x155002_1, .int .i64 x155003_1, .int .i64 x155004_1, .int .i64 x155005_1, .int .i64 x155006_1, .int .i64 x155007_1, .int .i64 x155008_1, .int .i64 x155009_1, .int .i64 x155010_1, .int .i64 x155011_1]) ?_ 0 _ rfl; (with_reducible repeat (first | refine blk_drewN ?_ _ | refine blk_drew ?_ | refine blk_alloc ?_ _)); exact BK154.out)) : gb175 ≠ gb154)); have n8_ := Aside0.mk ((by rw [hg]; exact Nat.ne_of_lt (blk_lt (g := gb173) (o := .cells #[.int .i64 t181, .int .i64 t182, .int .i64 t183, .int .i64 t184, .int .i64 t185, .int .i64 t186, .int .i64 t187, .int .i64 t188, .int .i64 t189, .int .i64 t190, .int .i64 t191, .int .i64 t192] 24 (0, 0)) (by (with_reducible repeat (first | refine blk_drewN ?_ _ | refine blk_drew ?_ | refine blk_alloc ?_ _)); refine blk_far ?_ NB173_154.out _; (with_reducible repeat (first | refine blk_drewN ?_ _ | refine blk_drew ?_ | refine blk_alloc ?_ _)); refine blk_far ?_ NB173_154.out _; (with_reducible repeat (first | refine blk_drewN ?_ _ | refine blk_drew ?_ | refine blk_alloc ?_ _)); refine blk_far ?_ NB173_154.out _; (with_reducible repeat (first | refine blk_drewN ?_ _ | refine blk_drew ?_ | refine blk_alloc ?_ _)); refine blk_far ?_ NB173_154.out _; (with_reducible repeat (first | refine blk_drewN ?_ _ | refine blk_drew ?_ | refine blk_alloc ?_ _)); refine blk_far ?_ NB173_154.out _; (with_reducible repeat (first | refine blk_drewN ?_ _ | refine blk_drew ?_ | refine blk_alloc ?_ _)); refine blk_far ?_ NB173_154.out _; (with_reducible repeat (first | refine blk_drewN ?_ _ | refine blk_drew ?_ | refine blk_alloc ?_ _)); refine blk_far ?_ NB173_154.out _; (with_reducible repeat (first | refine blk_drewN ?_ _ | refine blk_drew ?_ | refine blk_alloc ?_ _)); refine blk_far ?_ NB173_154.out _; (with_reducible repeat (first | refine blk_drewN ?_ _ | refine blk_drew ?_ | refine blk_alloc ?_ _)); refine blk_far ?_ NB173_154.out _; (with_reducible repeat (first | refine blk_drewN ?_ _ | refine blk_drew ?_ | refine blk_alloc ?_ _)); refine blk_far ?_ NB173_154.out _; (with_reducible repeat (first | refine blk_drewN ?_ _ | refine blk_drew ?_ | refine blk_alloc ?_ _)); refine blk_far ?_ NB173_154.out _; (with_reducible repeat (first | refine blk_drewN ?_ _ | refine blk_drew ?_ | refine blk_alloc ?_ _)); refine blk_far ?_ NB173_154.out _; (with_reducible repeat (first | refine blk_drewN ?_ _ | refine blk_drew ?_ | refine blk_alloc ?_ _)); exact BK173.out)) : gb173 ≠ gb175)); have n9_ := Aside0.mk ((by rw [hg]; exact Nat.ne_of_gt (blk_lt (g := gb173) (o := .cells #[.int .i64 t181, .int .i64 t182, .int .i64 t183, .int .i64 t184, .int .i64 t185, .int .i64 t186, .int .i64 t187, .int .i64 t188, .int .i64 t189, .int .i64 t190, .int .i64 t191, .int .i64 t192] 24 (0, 0)) (by (with_reducible repeat (first | refine blk_drewN ?_ _ | refine blk_drew ?_ | refine blk_alloc ?_ _)); refine blk_far ?_ NB173_154.out _; (with_reducible repeat (first | refine blk_drewN ?_ _ | refine blk_drew ?_ | refine blk_alloc ?_ _)); refine blk_far ?_ NB173_154.out _; (with_reducible repeat (first | refine blk_drewN ?_ _ | refine blk_drew ?_ | refine blk_alloc ?_ _)); refine blk_far ?_ NB173_154.out _; (with_reducible repeat (first | refine blk_drewN ?_ _ | refine blk_drew ?_ | refine blk_alloc ?_ _)); refine blk_far ?_ NB173_154.out _; (with_reducible repeat (first | refine blk_drewN ?_ _ | refine blk_drew ?_ | refine blk_alloc ?_ _)); refine blk_far ?_ NB173_154.out _; (with_reducible repeat (first | refine blk_drewN ?_ _ | refine blk_drew ?_ | refine blk_alloc ?_ _)); refine blk_far ?_ NB173_154.out _; (with_reducible repeat (first | refine blk_drewN ?_ _ | refine blk_drew ?_ | refine blk_alloc ?_ _)); refine blk_far ?_ NB173_154.out _; (with_reducible repeat (first | refine blk_drewN ?_ _ | refine blk_drew ?_ | refine blk_alloc ?_ _)); refine blk_far ?_ NB173_154.out _; (with_reducible repeat (first | refine blk_drewN ?_ _ | refine blk_drew ?_ | refine blk_alloc ?_ _)); refine blk_far ?_ NB173_154.out _; (with_reducible repeat (first | refine blk_drewN ?_ _ | refine blk_drew ?_ | refine blk_alloc ?_ _)); refine blk_far ?_ NB173_154.out _; (with_reducible repeat (first | refine blk_drewN ?_ _ | refine blk_drew ?_ | refine blk_alloc ?_ _)); refine blk_far ?_ NB173_154.out _; (with_reducible repeat (first | refine blk_drewN ?_ _ | refine blk_drew ?_ | refine blk_alloc ?_ _)); refine blk_far ?_ NB173_154.out _; (with_reducible repeat (first | refine blk_drewN ?_ _ | refine blk_drew ?_ | refine blk_alloc ?_ _)); exact BK173.out)) : gb175 ≠ gb173)); clear BK154; clear BK173; clear HB; have BK154 := n0_; have BK173 := n1_; have HB := n2_; have BK175 := n3_; have GW175 := n4_; have GE175 := n5_; have NB154_175 := n6_; have NB175_154 := n7_; have NB173_175 := n8_; have NB175_173 := n9_; clear n0_ n1_ n2_ n3_ n4_ n5_ n6_ n7_ n8_ n9_; clear hb hbox hg))
          go_loopg [9] kj67 (fun kq v9 w' => ∃ (x9_3 : Int) (x176000_3 : Int) (x176001_3 : Int), v9 = .int .i64 x9_3 ∧ Aside0 (arrearslaw8_LedgerBalanced.l1 kq l0 x4_1 x9_3 t181 t182 t183 t184 t185 t186 t187 t188 t189 t190 t191 t192 x176000_3 x176001_3 = some r) ∧ Aside0 (kq ≤ kj67) ∧ Aside0 (w'.heap[gb154]? = some (.cells #[.int .i64 t181, .int .i64 t182, .int .i64 t183, .int .i64 t184, .int .i64 t185, .int .i64 t186, .int .i64 t187, .int .i64 t188, .int .i64 t189, .int .i64 t190, .int .i64 t191, .int .i64 t192] 24 (0, 0))) ∧ Aside0 (w'.heap[gb173]? = some (.cells #[.int .i64 t181, .int .i64 t182, .int .i64 t183, .int .i64 t184, .int .i64 t185, .int .i64 t186, .int .i64 t187, .int .i64 t188, .int .i64 t189, .int .i64 t190, .int .i64 t191, .int .i64 t192] 24 (0, 0))) ∧ Aside0 (w'.heap[gb175]? = some (.cells #[.int .i64 x176000_3, .int .i64 x176001_3] 51 (0, 0))) ∧ Aside0 (Below w.heap.size w w'))
          case atStart => exact ⟨(0), (0), (0), (by first | rfl | (simp; done) | (simp [*]; done)), H', ⟨Nat.le_refl _⟩, ⟨by (with_reducible repeat (first | refine blk_drewN ?_ _ | refine blk_drew ?_ | refine blk_alloc ?_ _)); exact BK154.out⟩, ⟨by (with_reducible repeat (first | refine blk_drewN ?_ _ | refine blk_drew ?_ | refine blk_alloc ?_ _)); exact BK173.out⟩, ⟨by (with_reducible repeat (first | refine blk_drewN ?_ _ | refine blk_drew ?_ | refine blk_alloc ?_ _)); exact BK175.out⟩, ⟨by repeat (first | (with_reducible first | exact HB.out | apply below_alloc | apply pw_below_drewN | apply below_drew1 | refine below_set ?_ GE154.out | refine below_set ?_ GE173.out | refine below_set ?_ GE175.out) | exact HB.out)⟩⟩
          case round =>
           clear H'
           try clear c1
           try clear p1
           try clear q1
           try clear hx1
           try clear c2
           try clear p2
           try clear c3
           try clear c4
           try clear c5
           try clear c6
           try clear c6b0
           try clear p6
           try clear c7
           try clear c7b0
           try clear c8
           try clear c8b0
           try clear c8b1
           try clear c10
           try clear c10b0
           try clear c11
           try clear c11b0
           try clear c15
           try clear p15
           try clear q15
           try clear hx15
           try clear c17
           try clear p17
           try clear q17
           try clear c20
           try clear c22
           try clear c22b0
           try clear c22b1
           try clear c24
           try clear c27
           try clear c28
           try clear c29
           try clear c33
           try clear c33b0
           try clear c34
           try clear c34b0
           try clear c42
           try clear c44
           try clear c45
           try clear c46
           try clear c46b0
           try clear c46b1
           try clear c47
           try clear c48
           try clear c51
           try clear c56
           try clear c56b0
           try clear c56b1
           try clear c57
           try clear c57b0
           try clear c57b1
           try clear c58
           try clear c59
           try clear c62
           try clear p64
           try clear c72
           try clear c74
           try clear c74b0
           try clear c74b1
           try clear c76
           try clear c80
           try clear c81
           try clear hcz16_0
           try clear hcz16_1
           try clear hcz16_10
           try clear hcz16_11
           try clear hcz16_2
           try clear hcz16_3
           try clear hcz16_4
           try clear hcz16_5
           try clear hcz16_6
           try clear hcz16_7
           try clear hcz16_8
           try clear hcz16_9
           try clear hcz21_0
           try clear hcz21_1
           try clear hcz21_10
           try clear hcz21_11
           try clear hcz21_2
           try clear hcz21_3
           try clear hcz21_4
           try clear hcz21_5
           try clear hcz21_6
           try clear hcz21_7
           try clear hcz21_8
           try clear hcz21_9
           try clear hcz25_0
           try clear hcz25_1
           try clear hcz25_10
           try clear hcz25_11
           try clear hcz25_2
           try clear hcz25_3
           try clear hcz25_4
           try clear hcz25_5
           try clear hcz25_6
           try clear hcz25_7
           try clear hcz25_8
           try clear hcz25_9
           try clear hcz26_0
           try clear hcz26_1
           try clear hcz26_10
           try clear hcz26_11
           try clear hcz26_2
           try clear hcz26_3
           try clear hcz26_4
           try clear hcz26_5
           try clear hcz26_6
           try clear hcz26_7
           try clear hcz26_8
           try clear hcz26_9
           try clear hcz30_0
           try clear hcz30_1
           try clear hcz30_10
           try clear hcz30_11
           try clear hcz30_2
           try clear hcz30_3
           try clear hcz30_4
           try clear hcz30_5
           try clear hcz30_6
           try clear hcz30_7
           try clear hcz30_8
           try clear hcz30_9
           try clear hcz31_0
           try clear hcz31_1
           try clear hcz31_10
           try clear hcz31_11
           try clear hcz31_2
           try clear hcz31_3
           try clear hcz31_4
           try clear hcz31_5
           try clear hcz31_6
           try clear hcz31_7
           try clear hcz31_8
           try clear hcz31_9
           try clear hcz49_0
           try clear hcz49_1
           try clear hcz49_10
           try clear hcz49_11
           try clear hcz49_2
           try clear hcz49_3
           try clear hcz49_4
           try clear hcz49_5
           try clear hcz49_6
           try clear hcz49_7
           try clear hcz49_8
           try clear hcz49_9
           try clear hcz52_0
           try clear hcz52_1
           try clear hcz54_0
           try clear hcz54_1
           try clear hcz54_10
           try clear hcz54_11
           try clear hcz54_2
           try clear hcz54_3
           try clear hcz54_4
           try clear hcz54_5
           try clear hcz54_6
           try clear hcz54_7
           try clear hcz54_8
           try clear hcz54_9
           try clear hcz60_0
           try clear hcz60_1
           try clear hcz60_10
           try clear hcz60_11
           try clear hcz60_2
           try clear hcz60_3
           try clear hcz60_4
           try clear hcz60_5
           try clear hcz60_6
           try clear hcz60_7
           try clear hcz60_8
           try clear hcz60_9
           try clear hcz63_0
           try clear hcz63_1
           try clear hcz65_0
           try clear hcz65_1
           try clear hcz65_10
           try clear hcz65_11
           try clear hcz65_2
           try clear hcz65_3
           try clear hcz65_4
           try clear hcz65_5
           try clear hcz65_6
           try clear hcz65_7
           try clear hcz65_8
           try clear hcz65_9
           try clear hcz69_0
           try clear hcz69_1
           try clear hcz69_10
           try clear hcz69_11
           try clear hcz69_2
           try clear hcz69_3
           try clear hcz69_4
           try clear hcz69_5
           try clear hcz69_6
           try clear hcz69_7
           try clear hcz69_8
           try clear hcz69_9
           try clear hcz73_0
           try clear hcz73_1
           try clear hcz73_10
           try clear hcz73_11
           try clear hcz73_2
           try clear hcz73_3
           try clear hcz73_4
           try clear hcz73_5
           try clear hcz73_6
           try clear hcz73_7
           try clear hcz73_8
           try clear hcz73_9
           try clear hcz77_0
           try clear hcz77_1
           try clear hcz77_10
           try clear hcz77_11
           try clear hcz77_2
           try clear hcz77_3
           try clear hcz77_4
           try clear hcz77_5
           try clear hcz77_6
           try clear hcz77_7
           try clear hcz77_8
           try clear hcz77_9
           try clear hcz78_0
           try clear hcz78_1
           try clear hcz78_10
           try clear hcz78_11
           try clear hcz78_2
           try clear hcz78_3
           try clear hcz78_4
           try clear hcz78_5
           try clear hcz78_6
           try clear hcz78_7
           try clear hcz78_8
           try clear hcz78_9
           try clear hcz82_0
           try clear hcz82_1
           try clear hcz82_10
           try clear hcz82_11
           try clear hcz82_2
           try clear hcz82_3
           try clear hcz82_4
           try clear hcz82_5
           try clear hcz82_6
           try clear hcz82_7
           try clear hcz82_8
           try clear hcz82_9
           try clear hcz83_0
           try clear hcz83_1
           try clear hcz83_10
           try clear hcz83_11
           try clear hcz83_2
           try clear hcz83_3
           try clear hcz83_4
           try clear hcz83_5
           try clear hcz83_6
           try clear hcz83_7
           try clear hcz83_8
           try clear hcz83_9
           try clear hfz16_0
           try clear hfz16_1
           try clear hfz16_10
           try clear hfz16_11
           try clear hfz16_2
           try clear hfz16_3
           try clear hfz16_4
           try clear hfz16_5
           try clear hfz16_6
           try clear hfz16_7
           try clear hfz16_8
           try clear hfz16_9
           try clear hfz21_0
           try clear hfz21_1
           try clear hfz21_10
           try clear hfz21_11
           try clear hfz21_2
           try clear hfz21_3
           try clear hfz21_4
           try clear hfz21_5
           try clear hfz21_6
           try clear hfz21_7
           try clear hfz21_8
           try clear hfz21_9
           try clear hfz25_0
           try clear hfz25_1
           try clear hfz25_10
           try clear hfz25_11
           try clear hfz25_2
           try clear hfz25_3
           try clear hfz25_4
           try clear hfz25_5
           try clear hfz25_6
           try clear hfz25_7
           try clear hfz25_8
           try clear hfz25_9
           try clear hfz26_0
           try clear hfz26_1
           try clear hfz26_10
           try clear hfz26_11
           try clear hfz26_2
           try clear hfz26_3
           try clear hfz26_4
           try clear hfz26_5
           try clear hfz26_6
           try clear hfz26_7
           try clear hfz26_8
           try clear hfz26_9
           try clear hfz30_0
           try clear hfz30_1
           try clear hfz30_10
           try clear hfz30_11
           try clear hfz30_2
           try clear hfz30_3
           try clear hfz30_4
           try clear hfz30_5
           try clear hfz30_6
           try clear hfz30_7
           try clear hfz30_8
           try clear hfz30_9
           try clear hfz31_0
           try clear hfz31_1
           try clear hfz31_10
           try clear hfz31_11
           try clear hfz31_2
           try clear hfz31_3
           try clear hfz31_4
           try clear hfz31_5
           try clear hfz31_6
           try clear hfz31_7
           try clear hfz31_8
           try clear hfz31_9
           try clear hfz49_0
           try clear hfz49_1
           try clear hfz49_10
           try clear hfz49_11
           try clear hfz49_2
           try clear hfz49_3
           try clear hfz49_4
           try clear hfz49_5
           try clear hfz49_6
           try clear hfz49_7
           try clear hfz49_8
           try clear hfz49_9
           try clear hfz52_0
           try clear hfz52_1
           try clear hfz54_0
           try clear hfz54_1
           try clear hfz54_10
           try clear hfz54_11
           try clear hfz54_2
           try clear hfz54_3
           try clear hfz54_4
           try clear hfz54_5
           try clear hfz54_6
           try clear hfz54_7
           try clear hfz54_8
           try clear hfz54_9
           try clear hfz60_0
           try clear hfz60_1
           try clear hfz60_10
           try clear hfz60_11
           try clear hfz60_2
           try clear hfz60_3
           try clear hfz60_4
           try clear hfz60_5
           try clear hfz60_6
           try clear hfz60_7
           try clear hfz60_8
           try clear hfz60_9
           try clear hfz63_0
           try clear hfz63_1
           try clear hfz65_0
           try clear hfz65_1
           try clear hfz65_10
           try clear hfz65_11
           try clear hfz65_2
           try clear hfz65_3
           try clear hfz65_4
           try clear hfz65_5
           try clear hfz65_6
           try clear hfz65_7
           try clear hfz65_8
           try clear hfz65_9
           try clear hfz69_0
           try clear hfz69_1
           try clear hfz69_10
           try clear hfz69_11
           try clear hfz69_2
           try clear hfz69_3
           try clear hfz69_4
           try clear hfz69_5
           try clear hfz69_6
           try clear hfz69_7
           try clear hfz69_8
           try clear hfz69_9
           try clear hfz73_0
           try clear hfz73_1
           try clear hfz73_10
           try clear hfz73_11
           try clear hfz73_2
           try clear hfz73_3
           try clear hfz73_4
           try clear hfz73_5
           try clear hfz73_6
           try clear hfz73_7
           try clear hfz73_8
           try clear hfz73_9
           try clear hfz77_0
           try clear hfz77_1
           try clear hfz77_10
           try clear hfz77_11
           try clear hfz77_2
           try clear hfz77_3
           try clear hfz77_4
           try clear hfz77_5
           try clear hfz77_6
           try clear hfz77_7
           try clear hfz77_8
           try clear hfz77_9
           try clear hfz78_0
           try clear hfz78_1
           try clear hfz78_10
           try clear hfz78_11
           try clear hfz78_2
           try clear hfz78_3
           try clear hfz78_4
           try clear hfz78_5
           try clear hfz78_6
           try clear hfz78_7
           try clear hfz78_8
           try clear hfz78_9
           try clear hfz82_0
           try clear hfz82_1
           try clear hfz82_10
           try clear hfz82_11
           try clear hfz82_2
           try clear hfz82_3
           try clear hfz82_4
           try clear hfz82_5
           try clear hfz82_6
           try clear hfz82_7
           try clear hfz82_8
           try clear hfz82_9
           try clear hfz83_0
           try clear hfz83_1
           try clear hfz83_10
           try clear hfz83_11
           try clear hfz83_2
           try clear hfz83_3
           try clear hfz83_4
           try clear hfz83_5
           try clear hfz83_6
           try clear hfz83_7
           try clear hfz83_8
           try clear hfz83_9
           try clear hx154_0
           try clear hx155_0
           try clear p1
           try clear p15
           try clear p154
           try clear p155
           try clear p17
           try clear p173
           try clear p2
           try clear p6
           try clear p64
           try clear q1
           try clear q15
           try clear q154
           try clear q155
           try clear q17
           try clear q173
           obtain ⟨x9_3, x176000_3, x176001_3, rfl, HA, HK3, BK154, BK173, BK175, HB⟩ := hrel
           cases gk with
           | zero => exact absurd HA.out (by simp [arrearslaw8_LedgerBalanced.l1])
           | succ k3 =>
            have H := HA.out
            clear HA
            simp only [arrearslaw8_LedgerBalanced.l1] at H
            by_cases c85 : x9_3 < 12
            ·
             rw [if_pos c85] at H
             have c85b0 : decide (x9_3 < 12) = true := decide_eq_true c85
             clear c85
             by_cases c86 : 0 ≤ x9_3
             ·
              rw [if_pos c86] at H
              have c86b0 : decide (0 ≤ x9_3) = true := decide_eq_true c86
              clear c86
              replace H := Option.bind_eq_some_iff.mp H
              obtain ⟨⟨t174, t175⟩, A870, H⟩ := H
              replace H : (arrearslaw8_LedgerBalanced.l1 k3 l0 x4_1 (wrap64 (x9_3 + 1)) t181 t182 t183 t184 t185 t186 t187 t188 t189 t190 t191 t192 t174 t175) = some r := H
              have A87 := Aside0.mk A870
              clear A870
              have H' := Aside0.mk H
              clear H
              try go_wp2
              have n0_ := Aside0.mk (blk_drew BK154.out)
              have n1_ := Aside0.mk (blk_drew BK173.out)
              have n2_ := Aside0.mk (blk_drew BK175.out)
              have n3_ := Aside0.mk (below_drew1 HB.out)
              clear BK154
              clear BK173
              clear BK175
              clear HB
              have BK154 := n0_
              have BK173 := n1_
              have BK175 := n2_
              have HB := n3_
              clear n0_ n1_ n2_ n3_
              have p173 : 0 ≤ (x9_3 : Int) := of_decide_eq_true (by first | (with_reducible assumption) | assumption)
              have q173 : (x9_3 : Int) < 12 := of_decide_eq_true (by first | (with_reducible assumption) | assumption)
              have P173 := Aside0.mk p173
              have Q173 := Aside0.mk q173
              have t173 := eq_true (show (x9_3 : Int).toNat < 12 by omega)
              replace p173 := eq_true p173
              replace q173 := eq_true q173
              refine start_ (n := 7) (S := fun w' => w'.cell? ⟨gb175, 0, none⟩ = some (.int .i64 x176000_3) ∧ w'.cell? ⟨gb175, 1, none⟩ = some (.int .i64 x176001_3) ∧ w'.cell? ⟨gb154, (x9_3 : Int).toNat, none⟩ = some (.int .i64 (selI [t181, t182, t183, t184, t185, t186, t187, t188, t189, t190, t191, t192] x9_3))) (ds := [6]) #[false, false, false, false, false, false, false] (by kernel_rfl) rfl rfl ⟨(blk_cell BK175.out 0).trans rfl, (blk_cell BK175.out 1).trans rfl, (blk_cell BK154.out ((x9_3 : Int).toNat)).trans (selI_at .i64 [t181, t182, t183, t184, t185, t186, t187, t188, t189, t190, t191, t192] x9_3 P173.out Q173.out)⟩ (fun hHeld => ?_)
              generalize wr.drew = w88 at BK154 BK173 BK175 HB hHeld ⊢
              refine pure_ (i := 1) (N := some 54) (v := ?_) (a' := ?_) #[false, true, false, false, false, false, false] rfl rfl (by kernel_rfl) (fun _ _ _ h => h) (Or.inl ⟨by rfl, ?_⟩) ?_ ?_
              rotate_left
              ·
               intro w'
               go_simp
               with_reducible rfl
              rotate_left
              ·
               simp only [Act.put, List.setIfInBounds_toArray, List.set_cons_zero, List.set_cons_succ, i64_w, i32_w]
               rfl
              refine pure_ (i := 2) (N := some 55) (v := ?_) (a' := ?_) #[false, true, true, false, false, false, false] rfl rfl (by kernel_rfl) (fun _ _ _ h => h) (Or.inl ⟨by rfl, ?_⟩) ?_ ?_
              rotate_left
              ·
               intro w'
               go_simp
               with_reducible rfl
              rotate_left
              ·
               simp only [Act.put, List.setIfInBounds_toArray, List.set_cons_zero, List.set_cons_succ, i64_w, i32_w]
               rfl
              refine pure_ (i := 3) (N := some 56) (v := ?_) (a' := ?_) #[false, true, true, true, false, false, false] rfl rfl (by kernel_rfl) (fun _ _ _ h => h) (Or.inl ⟨by rfl, ?_⟩) ?_ ?_
              rotate_left
              ·
               intro w'
               go_simp
               with_reducible rfl
              rotate_left
              ·
               simp only [Act.put, List.setIfInBounds_toArray, List.set_cons_zero, List.set_cons_succ, i64_w, i32_w]
               rfl
              refine take_ (i := 0) (N := some 53) (v := ?_) (a' := ?_) #[true, true, true, true, false, false, false] rfl rfl (by kernel_rfl) (fun _ _ _ h => h) (Or.inl ⟨by rfl, ?_⟩) hHeld ?_ ?_
              rotate_left
              ·
               rintro w' ⟨s0, s1, s2⟩
               go_simp
               with_reducible rfl
              rotate_left
              ·
               simp only [Act.put, List.setIfInBounds_toArray, List.set_cons_zero, List.set_cons_succ, i64_w, i32_w]
               rfl
              refine take_ (i := 4) (N := some 57) (v := ?_) (a' := ?_) #[true, true, true, true, true, false, false] rfl rfl (by kernel_rfl) (fun _ _ _ h => h) (Or.inl ⟨by rfl, ?_⟩) hHeld ?_ ?_
              rotate_left
              ·
               rintro w' ⟨s0, s1, s2⟩
               go_simp
               with_reducible rfl
              rotate_left
              ·
               simp only [Act.put, List.setIfInBounds_toArray, List.set_cons_zero, List.set_cons_succ, i64_w, i32_w]
               rfl
              refine one_ (i := 5) (N := some 58) #[true, true, true, true, true, true, false] rfl rfl (by kernel_rfl) (by decide) (fun K hK => ?_)
              refine goes_ Tryd.func28 (by kernel_rfl) rfl #[.agg #[.int .i64 x176000_3, .int .i64 x176001_3], .int .i64 (selI [t181, t182, t183, t184, t185, t186, t187, t188, t189, t190, t191, t192] x9_3)] (by rfl) rfl rfl (by (try simp only [List.map_toArray, List.map_cons, List.map_nil]); first | done | rfl | (simp only [List.length_drop, List.length_take]; rfl)) ?_
              with_reducible refine (arrearslaw8_plus.calls x176000_3 x176001_3 (selI [t181, t182, t183, t184, t185, t186, t187, t188, t189, t190, t191, t192] x9_3) t174 t175 _ A87.out).mono ?_
              rintro e w89 ⟨rfl, hb⟩
              refine ⟨_, rfl, ?_⟩
              have n0_ := Aside0.mk (blk_below (g := gb154) (o := .cells #[.int .i64 t181, .int .i64 t182, .int .i64 t183, .int .i64 t184, .int .i64 t185, .int .i64 t186, .int .i64 t187, .int .i64 t188, .int .i64 t189, .int .i64 t190, .int .i64 t191, .int .i64 t192] 24 (0, 0)) (by (with_reducible repeat (first | refine blk_drewN ?_ _ | refine blk_drew ?_ | refine blk_alloc ?_ _)); exact BK154.out) hb)
              have n1_ := Aside0.mk (blk_below (g := gb173) (o := .cells #[.int .i64 t181, .int .i64 t182, .int .i64 t183, .int .i64 t184, .int .i64 t185, .int .i64 t186, .int .i64 t187, .int .i64 t188, .int .i64 t189, .int .i64 t190, .int .i64 t191, .int .i64 t192] 24 (0, 0)) (by (with_reducible repeat (first | refine blk_drewN ?_ _ | refine blk_drew ?_ | refine blk_alloc ?_ _)); exact BK173.out) hb)
              have n2_ := Aside0.mk (blk_below (g := gb175) (o := .cells #[.int .i64 x176000_3, .int .i64 x176001_3] 51 (0, 0)) (by (with_reducible repeat (first | refine blk_drewN ?_ _ | refine blk_drew ?_ | refine blk_alloc ?_ _)); exact BK175.out) hb)
              have n3_ := Aside0.mk (below_step (by repeat (first | (with_reducible first | exact HB.out | apply below_alloc | apply pw_below_drewN | apply below_drew1 | refine below_set ?_ GE154.out | refine below_set ?_ GE173.out | refine below_set ?_ GE175.out) | exact HB.out)) hb)
              clear BK154
              clear BK173
              clear BK175
              clear HB
              have BK154 := n0_
              have BK173 := n1_
              have BK175 := n2_
              have HB := n3_
              clear n0_ n1_ n2_ n3_
              (try clear hb)
              (try clear hb2)
              (try clear hk)
              (try clear hi)
              refine hK.out _ _ ⟨(blk_cell BK175.out 0).trans rfl, (blk_cell BK175.out 1).trans rfl, (blk_cell BK154.out ((x9_3 : Int).toNat)).trans (selI_at .i64 [t181, t182, t183, t184, t185, t186, t187, t188, t189, t190, t191, t192] x9_3 P173.out Q173.out)⟩ (fun hHeld => ?_)
              clear hK K
              refine norm_ (a' := ?_) ?_ ?_
              rotate_left
              ·
               show Act.put _ (some 58) _ = _
               simp only [Act.put, List.setIfInBounds_toArray, List.set_cons_zero, List.set_cons_succ, i64_w, i32_w]
               rfl
              refine last_ (i := 6) (N := none) #[true, true, true, true, true, true, true] rfl rfl (by kernel_rfl) (by decide) (fun K hK => ?_)
              have hs90 : w89.cell? ⟨gb175, 0, none⟩ = some (.int .i64 x176000_3) := (blk_cell BK175.out 0).trans rfl
              have hfs90 := blk_frozen BK175.out 0
              have hns90_0 := NB154_175.out
              have hns90_1 := NB173_175.out
              have hms90_0 := NB175_154.out
              have hms90_1 := NB175_173.out
              have hs91 : w89.cell? ⟨gb175, 1, none⟩ = some (.int .i64 x176001_3) := (blk_cell BK175.out 1).trans rfl
              have hfs91 := blk_frozen BK175.out 1
              have hns91_0 := NB154_175.out
              have hns91_1 := NB173_175.out
              have hms91_0 := NB175_154.out
              have hms91_1 := NB175_173.out
              refine skip_ (w1 := ?_) (by rfl) rfl ?_ ?_
              rotate_left
              ·
               go_simp
               rfl
              refine hK.out _ _ ?_
              clear hK K
              refine done_ (by kernel_rfl) ?_
              try go_wp2
              go_roundg k3
              case measure => have := HK1.out; have := HJ67.out; have := HK3.out; omega
              case rel => exact ⟨(wrap64 (x9_3 + 1)), (t174), (t175), (by first | rfl | (simp; done) | (simp [*]; done)), H', ⟨by have := HK1.out; have := HJ67.out; have := HK3.out; omega⟩, ⟨by (with_reducible repeat (first | refine blk_drewN ?_ _ | refine blk_drew ?_ | refine blk_alloc ?_ _)); refine blk_far ?_ NB154_175.out _; (with_reducible repeat (first | refine blk_drewN ?_ _ | refine blk_drew ?_ | refine blk_alloc ?_ _)); refine blk_far ?_ NB154_175.out _; (with_reducible repeat (first | refine blk_drewN ?_ _ | refine blk_drew ?_ | refine blk_alloc ?_ _)); exact BK154.out⟩, ⟨by (with_reducible repeat (first | refine blk_drewN ?_ _ | refine blk_drew ?_ | refine blk_alloc ?_ _)); refine blk_far ?_ NB173_175.out _; (with_reducible repeat (first | refine blk_drewN ?_ _ | refine blk_drew ?_ | refine blk_alloc ?_ _)); refine blk_far ?_ NB173_175.out _; (with_reducible repeat (first | refine blk_drewN ?_ _ | refine blk_drew ?_ | refine blk_alloc ?_ _)); exact BK173.out⟩, ⟨by (with_reducible repeat (first | refine blk_drewN ?_ _ | refine blk_drew ?_ | refine blk_alloc ?_ _)); refine blk_put (cs := #[.int .i64 t174, .int .i64 x176001_3]) ?_ 1 _ rfl; (with_reducible repeat (first | refine blk_drewN ?_ _ | refine blk_drew ?_ | refine blk_alloc ?_ _)); refine blk_put (cs := #[.int .i64 x176000_3, .int .i64 x176001_3]) ?_ 0 _ rfl; (with_reducible repeat (first | refine blk_drewN ?_ _ | refine blk_drew ?_ | refine blk_alloc ?_ _)); exact BK175.out⟩, ⟨by repeat (first | (with_reducible first | exact HB.out | apply below_alloc | apply pw_below_drewN | apply below_drew1 | refine below_set ?_ GE154.out | refine below_set ?_ GE173.out | refine below_set ?_ GE175.out) | exact HB.out)⟩⟩
             ·
              rw [if_neg c86] at H
              exact absurd H (by simp)
            ·
             rw [if_neg c85] at H
             have c85b0 : decide (x9_3 < 12) = false := decide_eq_false c85
             clear c85
             replace H := Option.bind_eq_some_iff.mp H
             obtain ⟨⟨t176, t177, t178⟩, A920, H⟩ := H
             replace H : ((arrearslaw8_nothing.f x176000_3 x176001_3).bind fun t179 => (if t179 = true then ((arrearslaw8_ownSide.f k3 t181 t182 t183 t184 t185 t186 t187 t188 t189 t190 t191 t192).bind fun t180 => (if t180 = true then (if t178 = true then (if t176 = t177 then (arrearslaw8_LedgerBalanced.l0 k3 l0 (wrap64 (x4_1 + 1)) t181 t182 t183 t184 t185 t186 t187 t188 t189 t190 t191 t192) else (none)) else (if t176 = 0 then (if t177 = 0 then (arrearslaw8_LedgerBalanced.l0 k3 l0 (wrap64 (x4_1 + 1)) t181 t182 t183 t184 t185 t186 t187 t188 t189 t190 t191 t192) else (none)) else (none))) else (none))) else (none))) = some r := H
             have A92 := Aside0.mk A920
             clear A920
             replace H := Option.bind_eq_some_iff.mp H
             obtain ⟨t179, A930, H⟩ := H
             replace H : (if t179 = true then ((arrearslaw8_ownSide.f k3 t181 t182 t183 t184 t185 t186 t187 t188 t189 t190 t191 t192).bind fun t180 => (if t180 = true then (if t178 = true then (if t176 = t177 then (arrearslaw8_LedgerBalanced.l0 k3 l0 (wrap64 (x4_1 + 1)) t181 t182 t183 t184 t185 t186 t187 t188 t189 t190 t191 t192) else (none)) else (if t176 = 0 then (if t177 = 0 then (arrearslaw8_LedgerBalanced.l0 k3 l0 (wrap64 (x4_1 + 1)) t181 t182 t183 t184 t185 t186 t187 t188 t189 t190 t191 t192) else (none)) else (none))) else (none))) else (none)) = some r := H
             have A93 := Aside0.mk A930
             clear A930
             by_cases c94 : t179 = true
             ·
              subst c94
              have H1 : ((arrearslaw8_ownSide.f k3 t181 t182 t183 t184 t185 t186 t187 t188 t189 t190 t191 t192).bind fun t180 => (if t180 = true then (if t178 = true then (if t176 = t177 then (arrearslaw8_LedgerBalanced.l0 k3 l0 (wrap64 (x4_1 + 1)) t181 t182 t183 t184 t185 t186 t187 t188 t189 t190 t191 t192) else (none)) else (if t176 = 0 then (if t177 = 0 then (arrearslaw8_LedgerBalanced.l0 k3 l0 (wrap64 (x4_1 + 1)) t181 t182 t183 t184 t185 t186 t187 t188 t189 t190 t191 t192) else (none)) else (none))) else (none))) = some r := by rw [if_pos rfl] at H; exact H
              clear H
              have H := H1
              clear H1
              replace H := Option.bind_eq_some_iff.mp H
              obtain ⟨t180, A950, H⟩ := H
              replace H : (if t180 = true then (if t178 = true then (if t176 = t177 then (arrearslaw8_LedgerBalanced.l0 k3 l0 (wrap64 (x4_1 + 1)) t181 t182 t183 t184 t185 t186 t187 t188 t189 t190 t191 t192) else (none)) else (if t176 = 0 then (if t177 = 0 then (arrearslaw8_LedgerBalanced.l0 k3 l0 (wrap64 (x4_1 + 1)) t181 t182 t183 t184 t185 t186 t187 t188 t189 t190 t191 t192) else (none)) else (none))) else (none)) = some r := H
              have A95 := Aside0.mk A950
              clear A950
              by_cases c96 : t180 = true
              ·
               subst c96
               have H1 : (if t178 = true then (if t176 = t177 then (arrearslaw8_LedgerBalanced.l0 k3 l0 (wrap64 (x4_1 + 1)) t181 t182 t183 t184 t185 t186 t187 t188 t189 t190 t191 t192) else (none)) else (if t176 = 0 then (if t177 = 0 then (arrearslaw8_LedgerBalanced.l0 k3 l0 (wrap64 (x4_1 + 1)) t181 t182 t183 t184 t185 t186 t187 t188 t189 t190 t191 t192) else (none)) else (none))) = some r := by rw [if_pos rfl] at H; exact H
               clear H
               have H := H1
               clear H1
               by_cases c97 : t178 = true
               ·
                subst c97
                have H1 : (if t176 = t177 then (arrearslaw8_LedgerBalanced.l0 k3 l0 (wrap64 (x4_1 + 1)) t181 t182 t183 t184 t185 t186 t187 t188 t189 t190 t191 t192) else (none)) = some r := by rw [if_pos rfl] at H; exact H
                clear H
                have H := H1
                clear H1
                by_cases c98 : t176 = t177
                ·
                 rw [if_pos c98] at H
                 have c98b0 : (t176 == t177) = true := beq_iff_eq.mpr c98
                 have c98b1 : (t176 != t177) = false := bne_eq_false_iff_eq.mpr c98
                 clear c98
                 have H' := Aside0.mk H
                 clear H
                 have hnb99 := NB154_173.out
                 have hnc99 := NB173_154.out
                 have hnb100 := NB154_175.out
                 have hnc100 := NB175_154.out
                 have hcz101_0 : wr.cell? ⟨gb154, 0, none⟩ = some (.int .i64 t181) := (blk_cell BK154.out 0).trans rfl
                 have hcz101_1 : wr.cell? ⟨gb154, 1, none⟩ = some (.int .i64 t182) := (blk_cell BK154.out 1).trans rfl
                 have hcz101_2 : wr.cell? ⟨gb154, 2, none⟩ = some (.int .i64 t183) := (blk_cell BK154.out 2).trans rfl
                 have hcz101_3 : wr.cell? ⟨gb154, 3, none⟩ = some (.int .i64 t184) := (blk_cell BK154.out 3).trans rfl
                 have hcz101_4 : wr.cell? ⟨gb154, 4, none⟩ = some (.int .i64 t185) := (blk_cell BK154.out 4).trans rfl
                 have hcz101_5 : wr.cell? ⟨gb154, 5, none⟩ = some (.int .i64 t186) := (blk_cell BK154.out 5).trans rfl
                 have hcz101_6 : wr.cell? ⟨gb154, 6, none⟩ = some (.int .i64 t187) := (blk_cell BK154.out 6).trans rfl
                 have hcz101_7 : wr.cell? ⟨gb154, 7, none⟩ = some (.int .i64 t188) := (blk_cell BK154.out 7).trans rfl
                 have hcz101_8 : wr.cell? ⟨gb154, 8, none⟩ = some (.int .i64 t189) := (blk_cell BK154.out 8).trans rfl
                 have hcz101_9 : wr.cell? ⟨gb154, 9, none⟩ = some (.int .i64 t190) := (blk_cell BK154.out 9).trans rfl
                 have hcz101_10 : wr.cell? ⟨gb154, 10, none⟩ = some (.int .i64 t191) := (blk_cell BK154.out 10).trans rfl
                 have hcz101_11 : wr.cell? ⟨gb154, 11, none⟩ = some (.int .i64 t192) := (blk_cell BK154.out 11).trans rfl
                 have hfz101_0 := blk_frozen BK154.out 0
                 have hfz101_1 := blk_frozen BK154.out 1
                 have hfz101_2 := blk_frozen BK154.out 2
                 have hfz101_3 := blk_frozen BK154.out 3
                 have hfz101_4 := blk_frozen BK154.out 4
                 have hfz101_5 := blk_frozen BK154.out 5
                 have hfz101_6 := blk_frozen BK154.out 6
                 have hfz101_7 := blk_frozen BK154.out 7
                 have hfz101_8 := blk_frozen BK154.out 8
                 have hfz101_9 := blk_frozen BK154.out 9
                 have hfz101_10 := blk_frozen BK154.out 10
                 have hfz101_11 := blk_frozen BK154.out 11
                 go_wp2_with (first | ((with_reducible refine gate_callee (f := 27) rfl ?_); refine goesL_ (some 61) rfl rfl Tryd.func27 (by kernel_rfl) rfl #[.agg #[.int .i64 t181, .int .i64 t182, .int .i64 t183, .int .i64 t184, .int .i64 t185, .int .i64 t186, .int .i64 t187, .int .i64 t188, .int .i64 t189, .int .i64 t190, .int .i64 t191, .int .i64 t192]] rfl (by (try simp only [List.map_toArray, List.map_cons, List.map_nil]); first | done | rfl | (simp only [List.length_drop, List.length_take]; rfl)) ?_; (with_reducible refine (ledger_Trial.calls k3 t181 t182 t183 t184 t185 t186 t187 t188 t189 t190 t191 t192 t176 t177 true _ A92.out).mono ?_); rintro e w102 ⟨rfl, hb⟩; refine ⟨_, rfl, ?_⟩; have n0_ := Aside0.mk (blk_below (g := gb154) (o := .cells #[.int .i64 t181, .int .i64 t182, .int .i64 t183, .int .i64 t184, .int .i64 t185, .int .i64 t186, .int .i64 t187, .int .i64 t188, .int .i64 t189, .int .i64 t190, .int .i64 t191, .int .i64 t192] 24 (0, 0)) (by (with_reducible repeat (first | refine blk_drewN ?_ _ | refine blk_drew ?_ | refine blk_alloc ?_ _)); exact BK154.out) hb); have n1_ := Aside0.mk (blk_below (g := gb173) (o := .cells #[.int .i64 t181, .int .i64 t182, .int .i64 t183, .int .i64 t184, .int .i64 t185, .int .i64 t186, .int .i64 t187, .int .i64 t188, .int .i64 t189, .int .i64 t190, .int .i64 t191, .int .i64 t192] 24 (0, 0)) (by (with_reducible repeat (first | refine blk_drewN ?_ _ | refine blk_drew ?_ | refine blk_alloc ?_ _)); exact BK173.out) hb); have n2_ := Aside0.mk (blk_below (g := gb175) (o := .cells #[.int .i64 x176000_3, .int .i64 x176001_3] 51 (0, 0)) (by (with_reducible repeat (first | refine blk_drewN ?_ _ | refine blk_drew ?_ | refine blk_alloc ?_ _)); exact BK175.out) hb); have n3_ := Aside0.mk (below_step (by repeat (first | (with_reducible first | exact HB.out | apply below_alloc | apply pw_below_drewN | apply below_drew1 | refine below_set ?_ GE154.out | refine below_set ?_ GE173.out | refine below_set ?_ GE175.out) | exact HB.out)) hb); clear BK154; clear BK173; clear BK175; clear HB; have BK154 := n0_; have BK173 := n1_; have BK175 := n2_; have HB := n3_; clear n0_ n1_ n2_ n3_; (try clear hb); (try clear hb2); (try clear hk); (try clear hi); have hnb103 := NB175_173.out; have hnc103 := NB173_175.out; have hcz104_0 : w102.cell? ⟨gb175, 0, none⟩ = some (.int .i64 x176000_3) := (blk_cell BK175.out 0).trans rfl; have hcz104_1 : w102.cell? ⟨gb175, 1, none⟩ = some (.int .i64 x176001_3) := (blk_cell BK175.out 1).trans rfl; have hfz104_0 := blk_frozen BK175.out 0; have hfz104_1 := blk_frozen BK175.out 1) | ((with_reducible refine gate_callee (f := 29) rfl ?_); refine goesL_ (some 66) rfl rfl Tryd.func29 (by kernel_rfl) rfl #[.agg #[.int .i64 x176000_3, .int .i64 x176001_3]] rfl (by (try simp only [List.map_toArray, List.map_cons, List.map_nil]); first | done | rfl | (simp only [List.length_drop, List.length_take]; rfl)) ?_; (with_reducible refine (arrearslaw8_nothing.calls x176000_3 x176001_3 true _ A93.out).mono ?_); rintro e w105 ⟨rfl, hb⟩; refine ⟨_, rfl, ?_⟩; have n0_ := Aside0.mk (blk_below (g := gb154) (o := .cells #[.int .i64 t181, .int .i64 t182, .int .i64 t183, .int .i64 t184, .int .i64 t185, .int .i64 t186, .int .i64 t187, .int .i64 t188, .int .i64 t189, .int .i64 t190, .int .i64 t191, .int .i64 t192] 24 (0, 0)) (by (with_reducible repeat (first | refine blk_drewN ?_ _ | refine blk_drew ?_ | refine blk_alloc ?_ _)); exact BK154.out) hb); have n1_ := Aside0.mk (blk_below (g := gb173) (o := .cells #[.int .i64 t181, .int .i64 t182, .int .i64 t183, .int .i64 t184, .int .i64 t185, .int .i64 t186, .int .i64 t187, .int .i64 t188, .int .i64 t189, .int .i64 t190, .int .i64 t191, .int .i64 t192] 24 (0, 0)) (by (with_reducible repeat (first | refine blk_drewN ?_ _ | refine blk_drew ?_ | refine blk_alloc ?_ _)); exact BK173.out) hb); have n2_ := Aside0.mk (blk_below (g := gb175) (o := .cells #[.int .i64 x176000_3, .int .i64 x176001_3] 51 (0, 0)) (by (with_reducible repeat (first | refine blk_drewN ?_ _ | refine blk_drew ?_ | refine blk_alloc ?_ _)); exact BK175.out) hb); have n3_ := Aside0.mk (below_step (by repeat (first | (with_reducible first | exact HB.out | apply below_alloc | apply pw_below_drewN | apply below_drew1 | refine below_set ?_ GE154.out | refine below_set ?_ GE173.out | refine below_set ?_ GE175.out) | exact HB.out)) hb); clear BK154; clear BK173; clear BK175; clear HB; have BK154 := n0_; have BK173 := n1_; have BK175 := n2_; have HB := n3_; clear n0_ n1_ n2_ n3_; (try clear hb); (try clear hb2); (try clear hk); (try clear hi); have hcz106_0 : w105.cell? ⟨gb154, 0, none⟩ = some (.int .i64 t181) := (blk_cell BK154.out 0).trans rfl; have hcz106_1 : w105.cell? ⟨gb154, 1, none⟩ = some (.int .i64 t182) := (blk_cell BK154.out 1).trans rfl; have hcz106_2 : w105.cell? ⟨gb154, 2, none⟩ = some (.int .i64 t183) := (blk_cell BK154.out 2).trans rfl; have hcz106_3 : w105.cell? ⟨gb154, 3, none⟩ = some (.int .i64 t184) := (blk_cell BK154.out 3).trans rfl; have hcz106_4 : w105.cell? ⟨gb154, 4, none⟩ = some (.int .i64 t185) := (blk_cell BK154.out 4).trans rfl; have hcz106_5 : w105.cell? ⟨gb154, 5, none⟩ = some (.int .i64 t186) := (blk_cell BK154.out 5).trans rfl; have hcz106_6 : w105.cell? ⟨gb154, 6, none⟩ = some (.int .i64 t187) := (blk_cell BK154.out 6).trans rfl; have hcz106_7 : w105.cell? ⟨gb154, 7, none⟩ = some (.int .i64 t188) := (blk_cell BK154.out 7).trans rfl; have hcz106_8 : w105.cell? ⟨gb154, 8, none⟩ = some (.int .i64 t189) := (blk_cell BK154.out 8).trans rfl; have hcz106_9 : w105.cell? ⟨gb154, 9, none⟩ = some (.int .i64 t190) := (blk_cell BK154.out 9).trans rfl; have hcz106_10 : w105.cell? ⟨gb154, 10, none⟩ = some (.int .i64 t191) := (blk_cell BK154.out 10).trans rfl; have hcz106_11 : w105.cell? ⟨gb154, 11, none⟩ = some (.int .i64 t192) := (blk_cell BK154.out 11).trans rfl; have hfz106_0 := blk_frozen BK154.out 0; have hfz106_1 := blk_frozen BK154.out 1; have hfz106_2 := blk_frozen BK154.out 2; have hfz106_3 := blk_frozen BK154.out 3; have hfz106_4 := blk_frozen BK154.out 4; have hfz106_5 := blk_frozen BK154.out 5; have hfz106_6 := blk_frozen BK154.out 6; have hfz106_7 := blk_frozen BK154.out 7; have hfz106_8 := blk_frozen BK154.out 8; have hfz106_9 := blk_frozen BK154.out 9; have hfz106_10 := blk_frozen BK154.out 10; have hfz106_11 := blk_frozen BK154.out 11) | (go_at_call 23; (with_reducible refine (arrearslaw8_ownSide.calls k3 t181 t182 t183 t184 t185 t186 t187 t188 t189 t190 t191 t192 true _ ?sideL A95.out).mono ?_); (case sideL => exact laid_at HL0_.out (by repeat (first | (with_reducible first | exact HB.out | apply below_alloc | apply pw_below_drewN | apply below_drew1 | refine below_set ?_ (Aside0.out (by assumption))) | exact HB.out | exact Below.refl _ _ | exact Drawn0.below (Drawn0.refl _)))); rintro e w107 ⟨rfl, hb⟩; have n0_ := Aside0.mk (blk_below (g := gb154) (o := .cells #[.int .i64 t181, .int .i64 t182, .int .i64 t183, .int .i64 t184, .int .i64 t185, .int .i64 t186, .int .i64 t187, .int .i64 t188, .int .i64 t189, .int .i64 t190, .int .i64 t191, .int .i64 t192] 24 (0, 0)) (by (with_reducible repeat (first | refine blk_drewN ?_ _ | refine blk_drew ?_ | refine blk_alloc ?_ _)); exact BK154.out) hb); have n1_ := Aside0.mk (blk_below (g := gb173) (o := .cells #[.int .i64 t181, .int .i64 t182, .int .i64 t183, .int .i64 t184, .int .i64 t185, .int .i64 t186, .int .i64 t187, .int .i64 t188, .int .i64 t189, .int .i64 t190, .int .i64 t191, .int .i64 t192] 24 (0, 0)) (by (with_reducible repeat (first | refine blk_drewN ?_ _ | refine blk_drew ?_ | refine blk_alloc ?_ _)); exact BK173.out) hb); have n2_ := Aside0.mk (blk_below (g := gb175) (o := .cells #[.int .i64 x176000_3, .int .i64 x176001_3] 51 (0, 0)) (by (with_reducible repeat (first | refine blk_drewN ?_ _ | refine blk_drew ?_ | refine blk_alloc ?_ _)); exact BK175.out) hb); have n3_ := Aside0.mk (below_step (by repeat (first | (with_reducible first | exact HB.out | apply below_alloc | apply pw_below_drewN | apply below_drew1 | refine below_set ?_ GE154.out | refine below_set ?_ GE173.out | refine below_set ?_ GE175.out) | exact HB.out)) hb); clear BK154; clear BK173; clear BK175; clear HB; have BK154 := n0_; have BK173 := n1_; have BK175 := n2_; have HB := n3_; clear n0_ n1_ n2_ n3_; (try clear hb); (try clear hb2); (try clear hk); (try clear hi)))
                 go_roundg k3
                 case measure => have := HK1.out; have := HJ67.out; have := HK3.out; omega
                 case rel => exact ⟨(wrap64 (x4_1 + 1)), (t181), (t182), (t183), (t184), (t185), (t186), (t187), (t188), (t189), (t190), (t191), (t192), (by first | rfl | (simp; done) | (simp [*]; done)), H', ⟨by have := HK1.out; have := HJ67.out; have := HK3.out; omega⟩, ⟨by (with_reducible repeat (first | refine blk_drewN ?_ _ | refine blk_drew ?_ | refine blk_alloc ?_ _)); exact BK154.out⟩, ⟨by repeat (first | (with_reducible first | exact HB.out | apply below_alloc | apply pw_below_drewN | apply below_drew1 | refine below_set ?_ GE154.out | refine below_set ?_ GE173.out | refine below_set ?_ GE175.out) | exact HB.out)⟩⟩
                ·
                 rw [if_neg c98] at H
                 exact absurd H (by simp)
               ·
                replace c97 := Bool.eq_false_iff.mpr c97
                subst c97
                have H1 : (if t176 = 0 then (if t177 = 0 then (arrearslaw8_LedgerBalanced.l0 k3 l0 (wrap64 (x4_1 + 1)) t181 t182 t183 t184 t185 t186 t187 t188 t189 t190 t191 t192) else (none)) else (none)) = some r := by rw [if_neg (show ¬ (false = true) by decide)] at H; exact H
                clear H
                have H := H1
                clear H1
                by_cases c108 : t176 = 0
                ·
                 rw [if_pos c108] at H
                 have c108b0 : (t176 == 0) = true := beq_iff_eq.mpr c108
                 have c108b1 : (t176 != 0) = false := bne_eq_false_iff_eq.mpr c108
                 clear c108
                 by_cases c109 : t177 = 0
                 ·
                  rw [if_pos c109] at H
                  have c109b0 : (t177 == 0) = true := beq_iff_eq.mpr c109
                  have c109b1 : (t177 != 0) = false := bne_eq_false_iff_eq.mpr c109
                  clear c109
                  have H' := Aside0.mk H
                  clear H
                  have hnb110 := NB154_173.out
                  have hnc110 := NB173_154.out
                  have hnb111 := NB154_175.out
                  have hnc111 := NB175_154.out
                  have hcz112_0 : wr.cell? ⟨gb154, 0, none⟩ = some (.int .i64 t181) := (blk_cell BK154.out 0).trans rfl
                  have hcz112_1 : wr.cell? ⟨gb154, 1, none⟩ = some (.int .i64 t182) := (blk_cell BK154.out 1).trans rfl
                  have hcz112_2 : wr.cell? ⟨gb154, 2, none⟩ = some (.int .i64 t183) := (blk_cell BK154.out 2).trans rfl
                  have hcz112_3 : wr.cell? ⟨gb154, 3, none⟩ = some (.int .i64 t184) := (blk_cell BK154.out 3).trans rfl
                  have hcz112_4 : wr.cell? ⟨gb154, 4, none⟩ = some (.int .i64 t185) := (blk_cell BK154.out 4).trans rfl
                  have hcz112_5 : wr.cell? ⟨gb154, 5, none⟩ = some (.int .i64 t186) := (blk_cell BK154.out 5).trans rfl
                  have hcz112_6 : wr.cell? ⟨gb154, 6, none⟩ = some (.int .i64 t187) := (blk_cell BK154.out 6).trans rfl
                  have hcz112_7 : wr.cell? ⟨gb154, 7, none⟩ = some (.int .i64 t188) := (blk_cell BK154.out 7).trans rfl
                  have hcz112_8 : wr.cell? ⟨gb154, 8, none⟩ = some (.int .i64 t189) := (blk_cell BK154.out 8).trans rfl
                  have hcz112_9 : wr.cell? ⟨gb154, 9, none⟩ = some (.int .i64 t190) := (blk_cell BK154.out 9).trans rfl
                  have hcz112_10 : wr.cell? ⟨gb154, 10, none⟩ = some (.int .i64 t191) := (blk_cell BK154.out 10).trans rfl
                  have hcz112_11 : wr.cell? ⟨gb154, 11, none⟩ = some (.int .i64 t192) := (blk_cell BK154.out 11).trans rfl
                  have hfz112_0 := blk_frozen BK154.out 0
                  have hfz112_1 := blk_frozen BK154.out 1
                  have hfz112_2 := blk_frozen BK154.out 2
                  have hfz112_3 := blk_frozen BK154.out 3
                  have hfz112_4 := blk_frozen BK154.out 4
                  have hfz112_5 := blk_frozen BK154.out 5
                  have hfz112_6 := blk_frozen BK154.out 6
                  have hfz112_7 := blk_frozen BK154.out 7
                  have hfz112_8 := blk_frozen BK154.out 8
                  have hfz112_9 := blk_frozen BK154.out 9
                  have hfz112_10 := blk_frozen BK154.out 10
                  have hfz112_11 := blk_frozen BK154.out 11
                  go_wp2_with (first | ((with_reducible refine gate_callee (f := 27) rfl ?_); refine goesL_ (some 61) rfl rfl Tryd.func27 (by kernel_rfl) rfl #[.agg #[.int .i64 t181, .int .i64 t182, .int .i64 t183, .int .i64 t184, .int .i64 t185, .int .i64 t186, .int .i64 t187, .int .i64 t188, .int .i64 t189, .int .i64 t190, .int .i64 t191, .int .i64 t192]] rfl (by (try simp only [List.map_toArray, List.map_cons, List.map_nil]); first | done | rfl | (simp only [List.length_drop, List.length_take]; rfl)) ?_; (with_reducible refine (ledger_Trial.calls k3 t181 t182 t183 t184 t185 t186 t187 t188 t189 t190 t191 t192 t176 t177 false _ A92.out).mono ?_); rintro e w113 ⟨rfl, hb⟩; refine ⟨_, rfl, ?_⟩; have n0_ := Aside0.mk (blk_below (g := gb154) (o := .cells #[.int .i64 t181, .int .i64 t182, .int .i64 t183, .int .i64 t184, .int .i64 t185, .int .i64 t186, .int .i64 t187, .int .i64 t188, .int .i64 t189, .int .i64 t190, .int .i64 t191, .int .i64 t192] 24 (0, 0)) (by (with_reducible repeat (first | refine blk_drewN ?_ _ | refine blk_drew ?_ | refine blk_alloc ?_ _)); exact BK154.out) hb); have n1_ := Aside0.mk (blk_below (g := gb173) (o := .cells #[.int .i64 t181, .int .i64 t182, .int .i64 t183, .int .i64 t184, .int .i64 t185, .int .i64 t186, .int .i64 t187, .int .i64 t188, .int .i64 t189, .int .i64 t190, .int .i64 t191, .int .i64 t192] 24 (0, 0)) (by (with_reducible repeat (first | refine blk_drewN ?_ _ | refine blk_drew ?_ | refine blk_alloc ?_ _)); exact BK173.out) hb); have n2_ := Aside0.mk (blk_below (g := gb175) (o := .cells #[.int .i64 x176000_3, .int .i64 x176001_3] 51 (0, 0)) (by (with_reducible repeat (first | refine blk_drewN ?_ _ | refine blk_drew ?_ | refine blk_alloc ?_ _)); exact BK175.out) hb); have n3_ := Aside0.mk (below_step (by repeat (first | (with_reducible first | exact HB.out | apply below_alloc | apply pw_below_drewN | apply below_drew1 | refine below_set ?_ GE154.out | refine below_set ?_ GE173.out | refine below_set ?_ GE175.out) | exact HB.out)) hb); clear BK154; clear BK173; clear BK175; clear HB; have BK154 := n0_; have BK173 := n1_; have BK175 := n2_; have HB := n3_; clear n0_ n1_ n2_ n3_; (try clear hb); (try clear hb2); (try clear hk); (try clear hi); have hnb114 := NB175_173.out; have hnc114 := NB173_175.out; have hcz115_0 : w113.cell? ⟨gb175, 0, none⟩ = some (.int .i64 x176000_3) := (blk_cell BK175.out 0).trans rfl; have hcz115_1 : w113.cell? ⟨gb175, 1, none⟩ = some (.int .i64 x176001_3) := (blk_cell BK175.out 1).trans rfl; have hfz115_0 := blk_frozen BK175.out 0; have hfz115_1 := blk_frozen BK175.out 1) | ((with_reducible refine gate_callee (f := 29) rfl ?_); refine goesL_ (some 66) rfl rfl Tryd.func29 (by kernel_rfl) rfl #[.agg #[.int .i64 x176000_3, .int .i64 x176001_3]] rfl (by (try simp only [List.map_toArray, List.map_cons, List.map_nil]); first | done | rfl | (simp only [List.length_drop, List.length_take]; rfl)) ?_; (with_reducible refine (arrearslaw8_nothing.calls x176000_3 x176001_3 true _ A93.out).mono ?_); rintro e w116 ⟨rfl, hb⟩; refine ⟨_, rfl, ?_⟩; have n0_ := Aside0.mk (blk_below (g := gb154) (o := .cells #[.int .i64 t181, .int .i64 t182, .int .i64 t183, .int .i64 t184, .int .i64 t185, .int .i64 t186, .int .i64 t187, .int .i64 t188, .int .i64 t189, .int .i64 t190, .int .i64 t191, .int .i64 t192] 24 (0, 0)) (by (with_reducible repeat (first | refine blk_drewN ?_ _ | refine blk_drew ?_ | refine blk_alloc ?_ _)); exact BK154.out) hb); have n1_ := Aside0.mk (blk_below (g := gb173) (o := .cells #[.int .i64 t181, .int .i64 t182, .int .i64 t183, .int .i64 t184, .int .i64 t185, .int .i64 t186, .int .i64 t187, .int .i64 t188, .int .i64 t189, .int .i64 t190, .int .i64 t191, .int .i64 t192] 24 (0, 0)) (by (with_reducible repeat (first | refine blk_drewN ?_ _ | refine blk_drew ?_ | refine blk_alloc ?_ _)); exact BK173.out) hb); have n2_ := Aside0.mk (blk_below (g := gb175) (o := .cells #[.int .i64 x176000_3, .int .i64 x176001_3] 51 (0, 0)) (by (with_reducible repeat (first | refine blk_drewN ?_ _ | refine blk_drew ?_ | refine blk_alloc ?_ _)); exact BK175.out) hb); have n3_ := Aside0.mk (below_step (by repeat (first | (with_reducible first | exact HB.out | apply below_alloc | apply pw_below_drewN | apply below_drew1 | refine below_set ?_ GE154.out | refine below_set ?_ GE173.out | refine below_set ?_ GE175.out) | exact HB.out)) hb); clear BK154; clear BK173; clear BK175; clear HB; have BK154 := n0_; have BK173 := n1_; have BK175 := n2_; have HB := n3_; clear n0_ n1_ n2_ n3_; (try clear hb); (try clear hb2); (try clear hk); (try clear hi); have hcz117_0 : w116.cell? ⟨gb154, 0, none⟩ = some (.int .i64 t181) := (blk_cell BK154.out 0).trans rfl; have hcz117_1 : w116.cell? ⟨gb154, 1, none⟩ = some (.int .i64 t182) := (blk_cell BK154.out 1).trans rfl; have hcz117_2 : w116.cell? ⟨gb154, 2, none⟩ = some (.int .i64 t183) := (blk_cell BK154.out 2).trans rfl; have hcz117_3 : w116.cell? ⟨gb154, 3, none⟩ = some (.int .i64 t184) := (blk_cell BK154.out 3).trans rfl; have hcz117_4 : w116.cell? ⟨gb154, 4, none⟩ = some (.int .i64 t185) := (blk_cell BK154.out 4).trans rfl; have hcz117_5 : w116.cell? ⟨gb154, 5, none⟩ = some (.int .i64 t186) := (blk_cell BK154.out 5).trans rfl; have hcz117_6 : w116.cell? ⟨gb154, 6, none⟩ = some (.int .i64 t187) := (blk_cell BK154.out 6).trans rfl; have hcz117_7 : w116.cell? ⟨gb154, 7, none⟩ = some (.int .i64 t188) := (blk_cell BK154.out 7).trans rfl; have hcz117_8 : w116.cell? ⟨gb154, 8, none⟩ = some (.int .i64 t189) := (blk_cell BK154.out 8).trans rfl; have hcz117_9 : w116.cell? ⟨gb154, 9, none⟩ = some (.int .i64 t190) := (blk_cell BK154.out 9).trans rfl; have hcz117_10 : w116.cell? ⟨gb154, 10, none⟩ = some (.int .i64 t191) := (blk_cell BK154.out 10).trans rfl; have hcz117_11 : w116.cell? ⟨gb154, 11, none⟩ = some (.int .i64 t192) := (blk_cell BK154.out 11).trans rfl; have hfz117_0 := blk_frozen BK154.out 0; have hfz117_1 := blk_frozen BK154.out 1; have hfz117_2 := blk_frozen BK154.out 2; have hfz117_3 := blk_frozen BK154.out 3; have hfz117_4 := blk_frozen BK154.out 4; have hfz117_5 := blk_frozen BK154.out 5; have hfz117_6 := blk_frozen BK154.out 6; have hfz117_7 := blk_frozen BK154.out 7; have hfz117_8 := blk_frozen BK154.out 8; have hfz117_9 := blk_frozen BK154.out 9; have hfz117_10 := blk_frozen BK154.out 10; have hfz117_11 := blk_frozen BK154.out 11) | (go_at_call 23; (with_reducible refine (arrearslaw8_ownSide.calls k3 t181 t182 t183 t184 t185 t186 t187 t188 t189 t190 t191 t192 true _ ?sideL A95.out).mono ?_); (case sideL => exact laid_at HL0_.out (by repeat (first | (with_reducible first | exact HB.out | apply below_alloc | apply pw_below_drewN | apply below_drew1 | refine below_set ?_ (Aside0.out (by assumption))) | exact HB.out | exact Below.refl _ _ | exact Drawn0.below (Drawn0.refl _)))); rintro e w118 ⟨rfl, hb⟩; have n0_ := Aside0.mk (blk_below (g := gb154) (o := .cells #[.int .i64 t181, .int .i64 t182, .int .i64 t183, .int .i64 t184, .int .i64 t185, .int .i64 t186, .int .i64 t187, .int .i64 t188, .int .i64 t189, .int .i64 t190, .int .i64 t191, .int .i64 t192] 24 (0, 0)) (by (with_reducible repeat (first | refine blk_drewN ?_ _ | refine blk_drew ?_ | refine blk_alloc ?_ _)); exact BK154.out) hb); have n1_ := Aside0.mk (blk_below (g := gb173) (o := .cells #[.int .i64 t181, .int .i64 t182, .int .i64 t183, .int .i64 t184, .int .i64 t185, .int .i64 t186, .int .i64 t187, .int .i64 t188, .int .i64 t189, .int .i64 t190, .int .i64 t191, .int .i64 t192] 24 (0, 0)) (by (with_reducible repeat (first | refine blk_drewN ?_ _ | refine blk_drew ?_ | refine blk_alloc ?_ _)); exact BK173.out) hb); have n2_ := Aside0.mk (blk_below (g := gb175) (o := .cells #[.int .i64 x176000_3, .int .i64 x176001_3] 51 (0, 0)) (by (with_reducible repeat (first | refine blk_drewN ?_ _ | refine blk_drew ?_ | refine blk_alloc ?_ _)); exact BK175.out) hb); have n3_ := Aside0.mk (below_step (by repeat (first | (with_reducible first | exact HB.out | apply below_alloc | apply pw_below_drewN | apply below_drew1 | refine below_set ?_ GE154.out | refine below_set ?_ GE173.out | refine below_set ?_ GE175.out) | exact HB.out)) hb); clear BK154; clear BK173; clear BK175; clear HB; have BK154 := n0_; have BK173 := n1_; have BK175 := n2_; have HB := n3_; clear n0_ n1_ n2_ n3_; (try clear hb); (try clear hb2); (try clear hk); (try clear hi)))
                  go_roundg k3
                  case measure => have := HK1.out; have := HJ67.out; have := HK3.out; omega
                  case rel => exact ⟨(wrap64 (x4_1 + 1)), (t181), (t182), (t183), (t184), (t185), (t186), (t187), (t188), (t189), (t190), (t191), (t192), (by first | rfl | (simp; done) | (simp [*]; done)), H', ⟨by have := HK1.out; have := HJ67.out; have := HK3.out; omega⟩, ⟨by (with_reducible repeat (first | refine blk_drewN ?_ _ | refine blk_drew ?_ | refine blk_alloc ?_ _)); exact BK154.out⟩, ⟨by repeat (first | (with_reducible first | exact HB.out | apply below_alloc | apply pw_below_drewN | apply below_drew1 | refine below_set ?_ GE154.out | refine below_set ?_ GE173.out | refine below_set ?_ GE175.out) | exact HB.out)⟩⟩
                 ·
                  rw [if_neg c109] at H
                  exact absurd H (by simp)
                ·
                 rw [if_neg c108] at H
                 exact absurd H (by simp)
              ·
               replace c96 := Bool.eq_false_iff.mpr c96
               subst c96
               have H1 : (none) = some r := by rw [if_neg (show ¬ (false = true) by decide)] at H; exact H
               clear H
               have H := H1
               clear H1
               exact absurd H (by simp)
             ·
              replace c94 := Bool.eq_false_iff.mpr c94
              subst c94
              have H1 : (none) = some r := by rw [if_neg (show ¬ (false = true) by decide)] at H; exact H
              clear H
              have H := H1
              clear H1
              exact absurd H (by simp)
     ·
      rw [if_neg c7] at H
      exact absurd H (by simp)
    ·
     rw [if_neg c6] at H
     have c6b0 : decide (x4_1 < (l0.length : Int)) = false := decide_eq_false c6
     clear c6
     obtain rfl := Option.some.inj H
     go_wp2
     go_ret
     exact ⟨by first | rfl | (simp [errW_none, errW_some] <;> rfl) | (simp [*, errW_none, errW_some] <;> rfl), by repeat (first | (with_reducible first | exact HB.out | apply below_alloc | apply pw_below_drewN | apply below_drew1 | refine below_set ?_ GE154.out) | exact HB.out)⟩
 ·
  replace c3 := Bool.eq_false_iff.mpr c3
  subst c3
  have H1 : (none) = some r := by rw [if_neg (show ¬ (false = true) by decide)] at H; exact H
  clear H
  have H := H1
  clear H1
  exact absurd H (by simp)

end Go.Proofs.YtmppfpdaglkhkaaDoor.L
