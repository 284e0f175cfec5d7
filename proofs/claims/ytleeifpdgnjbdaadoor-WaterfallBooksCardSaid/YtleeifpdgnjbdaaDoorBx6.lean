-- Written by stubprint.py (wip/) of this work, over the kit's print.py; parts by hand.
import Derived.Test.YtleeifpdgnjbdaaDoorBx0
import Derived.Test.YtleeifpdgnjbdaaDoorBx3
import Derived.Test.YtleeifpdgnjbdaaDoorBx4
import Derived.Test.YtleeifpdgnjbdaaDoorBx5
namespace Go.Proofs.YtleeifpdgnjbdaaDoor.B
open Go.RowKit Go.Proofs.YtleeifpdgnjbdaaDoorW.PrintWords Go.Proofs.YtleeifpdgnjbdaaDoorW.PrintLast Go.Proofs.YtleeifpdgnjbdaaDoorW.PrintMore
attribute [local go_sem] max2_int min2_int max_two min_two max_three min_three max_four min_four   -- for this text's walks alone
set_option linter.unusedVariables false
set_option linter.unusedSimpArgs false

/-! ### arrearslaw9_posted: function 15 -/
mutual
def arrearslaw9_posted.j0 : Nat → Bool → Int → Int → Int → Int → Int → Int → Int → Int → Int → Int → Int → Int → Int → Int → Int → Int → Int → Int → Int → Int → Int → Int → Int → Int → Int → Int → Int → Int → Int → Option (Bool)
 | 0, _, _, _, _, _, _, _, _, _, _, _, _, _, _, _, _, _, _, _, _, _, _, _, _, _, _, _, _, _, _ => none
 | k + 1, x34, x146000, x146001, x146002, x146003, x146004, x146005, x146006, x146007, x146008, x146009, x146010, x146011, x147000, x147001, x147002, x147003, x147004, x164000, x164001, x164002, x164003, x164004, x164005, x164006, x164007, x164008, x164009, x164010, x164011 => if x34 = true then (none) else (if (wrap64 (x146003 - x164003)) = x147000 then (if (wrap64 (x146002 - x164002)) = x147001 then (arrearslaw9_posted.j1 k ((wrap64 (x146001 - x164001)) != x147002) x146000 x146001 x146002 x146003 x146004 x146005 x146006 x146007 x146008 x146009 x146010 x146011 x147000 x147001 x147002 x147003 x147004 x164000 x164001 x164002 x164003 x164004 x164005 x164006 x164007 x164008 x164009 x164010 x164011) else (arrearslaw9_posted.j1 k true x146000 x146001 x146002 x146003 x146004 x146005 x146006 x146007 x146008 x146009 x146010 x146011 x147000 x147001 x147002 x147003 x147004 x164000 x164001 x164002 x164003 x164004 x164005 x164006 x164007 x164008 x164009 x164010 x164011)) else (arrearslaw9_posted.j1 k true x146000 x146001 x146002 x146003 x146004 x146005 x146006 x146007 x146008 x146009 x146010 x146011 x147000 x147001 x147002 x147003 x147004 x164000 x164001 x164002 x164003 x164004 x164005 x164006 x164007 x164008 x164009 x164010 x164011))
def arrearslaw9_posted.j1 : Nat → Bool → Int → Int → Int → Int → Int → Int → Int → Int → Int → Int → Int → Int → Int → Int → Int → Int → Int → Int → Int → Int → Int → Int → Int → Int → Int → Int → Int → Int → Int → Option (Bool)
 | 0, _, _, _, _, _, _, _, _, _, _, _, _, _, _, _, _, _, _, _, _, _, _, _, _, _, _, _, _, _, _ => none
 | k + 1, x68, x146000, x146001, x146002, x146003, x146004, x146005, x146006, x146007, x146008, x146009, x146010, x146011, x147000, x147001, x147002, x147003, x147004, x164000, x164001, x164002, x164003, x164004, x164005, x164006, x164007, x164008, x164009, x164010, x164011 => if x68 = true then (none) else (if (wrap64 (x146004 - x164004)) = x147003 then (arrearslaw9_posted.j2 k ((wrap64 (x146010 - x164010)) != x147004) x146000 x146001 x146002 x146003 x146004 x146005 x146006 x146007 x146008 x146009 x146010 x146011 x147000 x147001 x147002 x147003 x147004 x164000 x164001 x164002 x164003 x164004 x164005 x164006 x164007 x164008 x164009 x164010 x164011) else (arrearslaw9_posted.j2 k true x146000 x146001 x146002 x146003 x146004 x146005 x146006 x146007 x146008 x146009 x146010 x146011 x147000 x147001 x147002 x147003 x147004 x164000 x164001 x164002 x164003 x164004 x164005 x164006 x164007 x164008 x164009 x164010 x164011))
def arrearslaw9_posted.j2 : Nat → Bool → Int → Int → Int → Int → Int → Int → Int → Int → Int → Int → Int → Int → Int → Int → Int → Int → Int → Int → Int → Int → Int → Int → Int → Int → Int → Int → Int → Int → Int → Option (Bool)
 | 0, _, _, _, _, _, _, _, _, _, _, _, _, _, _, _, _, _, _, _, _, _, _, _, _, _, _, _, _, _, _ => none
 | k + 1, x90, x146000, x146001, x146002, x146003, x146004, x146005, x146006, x146007, x146008, x146009, x146010, x146011, x147000, x147001, x147002, x147003, x147004, x164000, x164001, x164002, x164003, x164004, x164005, x164006, x164007, x164008, x164009, x164010, x164011 => if x90 = true then (none) else ((ledger_Trial.f k x164000 x164001 x164002 x164003 x164004 x164005 x164006 x164007 x164008 x164009 x164010 x164011).bind fun bt164 => (if bt164.2.2 = true then (arrearslaw9_posted.j3 k (bt164.1 != bt164.2.1) x146000 x146001 x146002 x146003 x146004 x146005 x146006 x146007 x146008 x146009 x146010 x146011 x147000 x147001 x147002 x147003 x147004 x164000 x164001 x164002 x164003 x164004 x164005 x164006 x164007 x164008 x164009 x164010 x164011) else (arrearslaw9_posted.j3 k true x146000 x146001 x146002 x146003 x146004 x146005 x146006 x146007 x146008 x146009 x146010 x146011 x147000 x147001 x147002 x147003 x147004 x164000 x164001 x164002 x164003 x164004 x164005 x164006 x164007 x164008 x164009 x164010 x164011)))
def arrearslaw9_posted.j3 : Nat → Bool → Int → Int → Int → Int → Int → Int → Int → Int → Int → Int → Int → Int → Int → Int → Int → Int → Int → Int → Int → Int → Int → Int → Int → Int → Int → Int → Int → Int → Int → Option (Bool)
 | 0, _, _, _, _, _, _, _, _, _, _, _, _, _, _, _, _, _, _, _, _, _, _, _, _, _, _, _, _, _, _ => none
 | k + 1, x103, x146000, x146001, x146002, x146003, x146004, x146005, x146006, x146007, x146008, x146009, x146010, x146011, x147000, x147001, x147002, x147003, x147004, x164000, x164001, x164002, x164003, x164004, x164005, x164006, x164007, x164008, x164009, x164010, x164011 => if x103 = true then (none) else ((waterfall_Undo.f k x147000 x147001 x147002 x147003 x147004).bind fun t167 => ((ledger_Post.f x164000 x164001 x164002 x164003 x164004 x164005 x164006 x164007 x164008 x164009 x164010 x164011 t167).bind fun bt170 => (if bt170.2.2.2.2.2.2.2.2.2.2.2.2 = 0 then (arrearslaw9_posted.l0 k 0 x146000 x146001 x146002 x146003 x146004 x146005 x146006 x146007 x146008 x146009 x146010 x146011 bt170.1 bt170.2.1 bt170.2.2.1 bt170.2.2.2.1 bt170.2.2.2.2.1 bt170.2.2.2.2.2.1 bt170.2.2.2.2.2.2.1 bt170.2.2.2.2.2.2.2.1 bt170.2.2.2.2.2.2.2.2.1 bt170.2.2.2.2.2.2.2.2.2.1 bt170.2.2.2.2.2.2.2.2.2.2.1 bt170.2.2.2.2.2.2.2.2.2.2.2.1) else (none))))
def arrearslaw9_posted.l0 : Nat → Int → Int → Int → Int → Int → Int → Int → Int → Int → Int → Int → Int → Int → Int → Int → Int → Int → Int → Int → Int → Int → Int → Int → Int → Int → Option (Bool)
 | 0, _, _, _, _, _, _, _, _, _, _, _, _, _, _, _, _, _, _, _, _, _, _, _, _, _ => none
 | k + 1, x14, x146000, x146001, x146002, x146003, x146004, x146005, x146006, x146007, x146008, x146009, x146010, x146011, x184000, x184001, x184002, x184003, x184004, x184005, x184006, x184007, x184008, x184009, x184010, x184011 => if x14 < 12 then (if 0 ≤ x14 then (if (selI [x184000, x184001, x184002, x184003, x184004, x184005, x184006, x184007, x184008, x184009, x184010, x184011] x14) = (selI [x146000, x146001, x146002, x146003, x146004, x146005, x146006, x146007, x146008, x146009, x146010, x146011] x14) then (arrearslaw9_posted.l0 k (wrap64 (x14 + 1)) x146000 x146001 x146002 x146003 x146004 x146005 x146006 x146007 x146008 x146009 x146010 x146011 x184000 x184001 x184002 x184003 x184004 x184005 x184006 x184007 x184008 x184009 x184010 x184011) else (none)) else (none)) else (some true)
end
def arrearslaw9_posted.f (k : Nat) (a0_0 : Int) (a0_1 : Int) (a0_2 : Int) (a0_3 : Int) (a0_4 : Int) (a0_5 : Int) (a0_6 : Int) (a0_7 : Int) (a0_8 : Int) (a0_9 : Int) (a0_10 : Int) (a0_11 : Int) (a1_0 : Int) (a1_1 : Int) (a1_2 : Int) (a1_3 : Int) (a1_4 : Int) (a2 : Int) : Option (Bool) := (waterfall_Entries.f k a1_0 a1_1 a1_2 a1_3 a1_4).bind fun t147 => ((ledger_Post.f a0_0 a0_1 a0_2 a0_3 a0_4 a0_5 a0_6 a0_7 a0_8 a0_9 a0_10 a0_11 t147).bind fun bt150 => (if bt150.2.2.2.2.2.2.2.2.2.2.2.2 = 0 then (arrearslaw9_posted.j0 k ((wrap64 (bt150.1 - a0_0)) != a2) a0_0 a0_1 a0_2 a0_3 a0_4 a0_5 a0_6 a0_7 a0_8 a0_9 a0_10 a0_11 a1_0 a1_1 a1_2 a1_3 a1_4 bt150.1 bt150.2.1 bt150.2.2.1 bt150.2.2.2.1 bt150.2.2.2.2.1 bt150.2.2.2.2.2.1 bt150.2.2.2.2.2.2.1 bt150.2.2.2.2.2.2.2.1 bt150.2.2.2.2.2.2.2.2.1 bt150.2.2.2.2.2.2.2.2.2.1 bt150.2.2.2.2.2.2.2.2.2.2.1 bt150.2.2.2.2.2.2.2.2.2.2.2.1) else (arrearslaw9_posted.j0 k true a0_0 a0_1 a0_2 a0_3 a0_4 a0_5 a0_6 a0_7 a0_8 a0_9 a0_10 a0_11 a1_0 a1_1 a1_2 a1_3 a1_4 bt150.1 bt150.2.1 bt150.2.2.1 bt150.2.2.2.1 bt150.2.2.2.2.1 bt150.2.2.2.2.2.1 bt150.2.2.2.2.2.2.1 bt150.2.2.2.2.2.2.2.1 bt150.2.2.2.2.2.2.2.2.1 bt150.2.2.2.2.2.2.2.2.2.1 bt150.2.2.2.2.2.2.2.2.2.2.1 bt150.2.2.2.2.2.2.2.2.2.2.2.1)))
theorem arrearslaw9_posted.mono_l : ∀ k, (∀ y0 y1 y2 y3 y4 y5 y6 y7 y8 y9 y10 y11 y12 y13 y14 y15 y16 y17 y18 y19 y20 y21 y22 y23 y24 y25 y26 y27 y28 y29, LeO (arrearslaw9_posted.j0 k y0 y1 y2 y3 y4 y5 y6 y7 y8 y9 y10 y11 y12 y13 y14 y15 y16 y17 y18 y19 y20 y21 y22 y23 y24 y25 y26 y27 y28 y29) (arrearslaw9_posted.j0 (k + 1) y0 y1 y2 y3 y4 y5 y6 y7 y8 y9 y10 y11 y12 y13 y14 y15 y16 y17 y18 y19 y20 y21 y22 y23 y24 y25 y26 y27 y28 y29)) ∧ (∀ y0 y1 y2 y3 y4 y5 y6 y7 y8 y9 y10 y11 y12 y13 y14 y15 y16 y17 y18 y19 y20 y21 y22 y23 y24 y25 y26 y27 y28 y29, LeO (arrearslaw9_posted.j1 k y0 y1 y2 y3 y4 y5 y6 y7 y8 y9 y10 y11 y12 y13 y14 y15 y16 y17 y18 y19 y20 y21 y22 y23 y24 y25 y26 y27 y28 y29) (arrearslaw9_posted.j1 (k + 1) y0 y1 y2 y3 y4 y5 y6 y7 y8 y9 y10 y11 y12 y13 y14 y15 y16 y17 y18 y19 y20 y21 y22 y23 y24 y25 y26 y27 y28 y29)) ∧ (∀ y0 y1 y2 y3 y4 y5 y6 y7 y8 y9 y10 y11 y12 y13 y14 y15 y16 y17 y18 y19 y20 y21 y22 y23 y24 y25 y26 y27 y28 y29, LeO (arrearslaw9_posted.j2 k y0 y1 y2 y3 y4 y5 y6 y7 y8 y9 y10 y11 y12 y13 y14 y15 y16 y17 y18 y19 y20 y21 y22 y23 y24 y25 y26 y27 y28 y29) (arrearslaw9_posted.j2 (k + 1) y0 y1 y2 y3 y4 y5 y6 y7 y8 y9 y10 y11 y12 y13 y14 y15 y16 y17 y18 y19 y20 y21 y22 y23 y24 y25 y26 y27 y28 y29)) ∧ (∀ y0 y1 y2 y3 y4 y5 y6 y7 y8 y9 y10 y11 y12 y13 y14 y15 y16 y17 y18 y19 y20 y21 y22 y23 y24 y25 y26 y27 y28 y29, LeO (arrearslaw9_posted.j3 k y0 y1 y2 y3 y4 y5 y6 y7 y8 y9 y10 y11 y12 y13 y14 y15 y16 y17 y18 y19 y20 y21 y22 y23 y24 y25 y26 y27 y28 y29) (arrearslaw9_posted.j3 (k + 1) y0 y1 y2 y3 y4 y5 y6 y7 y8 y9 y10 y11 y12 y13 y14 y15 y16 y17 y18 y19 y20 y21 y22 y23 y24 y25 y26 y27 y28 y29)) ∧ (∀ y0 y1 y2 y3 y4 y5 y6 y7 y8 y9 y10 y11 y12 y13 y14 y15 y16 y17 y18 y19 y20 y21 y22 y23 y24, LeO (arrearslaw9_posted.l0 k y0 y1 y2 y3 y4 y5 y6 y7 y8 y9 y10 y11 y12 y13 y14 y15 y16 y17 y18 y19 y20 y21 y22 y23 y24) (arrearslaw9_posted.l0 (k + 1) y0 y1 y2 y3 y4 y5 y6 y7 y8 y9 y10 y11 y12 y13 y14 y15 y16 y17 y18 y19 y20 y21 y22 y23 y24))
 | 0 => ⟨fun _ _ _ _ _ _ _ _ _ _ _ _ _ _ _ _ _ _ _ _ _ _ _ _ _ _ _ _ _ _ r h => by simp [arrearslaw9_posted.j0] at h, fun _ _ _ _ _ _ _ _ _ _ _ _ _ _ _ _ _ _ _ _ _ _ _ _ _ _ _ _ _ _ r h => by simp [arrearslaw9_posted.j1] at h, fun _ _ _ _ _ _ _ _ _ _ _ _ _ _ _ _ _ _ _ _ _ _ _ _ _ _ _ _ _ _ r h => by simp [arrearslaw9_posted.j2] at h, fun _ _ _ _ _ _ _ _ _ _ _ _ _ _ _ _ _ _ _ _ _ _ _ _ _ _ _ _ _ _ r h => by simp [arrearslaw9_posted.j3] at h, fun _ _ _ _ _ _ _ _ _ _ _ _ _ _ _ _ _ _ _ _ _ _ _ _ _ r h => by simp [arrearslaw9_posted.l0] at h⟩
 | k + 1 => by
  obtain ⟨ih0, ih1, ih2, ih3, ih4⟩ := arrearslaw9_posted.mono_l k
  refine ⟨?_, ?_, ?_, ?_, ?_⟩
  ·
   intro y0 y1 y2 y3 y4 y5 y6 y7 y8 y9 y10 y11 y12 y13 y14 y15 y16 y17 y18 y19 y20 y21 y22 y23 y24 y25 y26 y27 y28 y29
   unfold arrearslaw9_posted.j0
   repeat' first
   | (with_reducible exact ih0 _ _ _ _ _ _ _ _ _ _ _ _ _ _ _ _ _ _ _ _ _ _ _ _ _ _ _ _ _ _)
   | (with_reducible exact ih1 _ _ _ _ _ _ _ _ _ _ _ _ _ _ _ _ _ _ _ _ _ _ _ _ _ _ _ _ _ _)
   | (with_reducible exact ih2 _ _ _ _ _ _ _ _ _ _ _ _ _ _ _ _ _ _ _ _ _ _ _ _ _ _ _ _ _ _)
   | (with_reducible exact ih3 _ _ _ _ _ _ _ _ _ _ _ _ _ _ _ _ _ _ _ _ _ _ _ _ _ _ _ _ _ _)
   | (with_reducible exact ih4 _ _ _ _ _ _ _ _ _ _ _ _ _ _ _ _ _ _ _ _ _ _ _ _ _)
   | (with_reducible exact ledger_Trial.mono _ _ _ _ _ _ _ _ _ _ _ _ _)
   | (with_reducible exact waterfall_Entries.mono _ _ _ _ _ _)
   | (with_reducible exact waterfall_Undo.mono _ _ _ _ _ _)
   | (with_reducible exact LeO.refl _)
   | (with_reducible exact LeO.none _)
   | (with_reducible refine LeO.ite ?_ ?_)
   | (with_reducible refine LeO.bind ?_ (fun _ => ?_))
   | exact ih0 _ _ _ _ _ _ _ _ _ _ _ _ _ _ _ _ _ _ _ _ _ _ _ _ _ _ _ _ _ _
   | exact ih1 _ _ _ _ _ _ _ _ _ _ _ _ _ _ _ _ _ _ _ _ _ _ _ _ _ _ _ _ _ _
   | exact ih2 _ _ _ _ _ _ _ _ _ _ _ _ _ _ _ _ _ _ _ _ _ _ _ _ _ _ _ _ _ _
   | exact ih3 _ _ _ _ _ _ _ _ _ _ _ _ _ _ _ _ _ _ _ _ _ _ _ _ _ _ _ _ _ _
   | exact ih4 _ _ _ _ _ _ _ _ _ _ _ _ _ _ _ _ _ _ _ _ _ _ _ _ _
   | exact ledger_Trial.mono _ _ _ _ _ _ _ _ _ _ _ _ _
   | exact waterfall_Entries.mono _ _ _ _ _ _
   | exact waterfall_Undo.mono _ _ _ _ _ _
   | exact LeO.none _
   | refine LeO.ite ?_ ?_
   | refine LeO.bind ?_ (fun _ => ?_)
  ·
   intro y0 y1 y2 y3 y4 y5 y6 y7 y8 y9 y10 y11 y12 y13 y14 y15 y16 y17 y18 y19 y20 y21 y22 y23 y24 y25 y26 y27 y28 y29
   unfold arrearslaw9_posted.j1
   repeat' first
   | (with_reducible exact ih0 _ _ _ _ _ _ _ _ _ _ _ _ _ _ _ _ _ _ _ _ _ _ _ _ _ _ _ _ _ _)
   | (with_reducible exact ih1 _ _ _ _ _ _ _ _ _ _ _ _ _ _ _ _ _ _ _ _ _ _ _ _ _ _ _ _ _ _)
   | (with_reducible exact ih2 _ _ _ _ _ _ _ _ _ _ _ _ _ _ _ _ _ _ _ _ _ _ _ _ _ _ _ _ _ _)
   | (with_reducible exact ih3 _ _ _ _ _ _ _ _ _ _ _ _ _ _ _ _ _ _ _ _ _ _ _ _ _ _ _ _ _ _)
   | (with_reducible exact ih4 _ _ _ _ _ _ _ _ _ _ _ _ _ _ _ _ _ _ _ _ _ _ _ _ _)
   | (with_reducible exact ledger_Trial.mono _ _ _ _ _ _ _ _ _ _ _ _ _)
   | (with_reducible exact waterfall_Entries.mono _ _ _ _ _ _)
   | (with_reducible exact waterfall_Undo.mono _ _ _ _ _ _)
   | (with_reducible exact LeO.refl _)
   | (with_reducible exact LeO.none _)
   | (with_reducible refine LeO.ite ?_ ?_)
   | (with_reducible refine LeO.bind ?_ (fun _ => ?_))
   | exact ih0 _ _ _ _ _ _ _ _ _ _ _ _ _ _ _ _ _ _ _ _ _ _ _ _ _ _ _ _ _ _
   | exact ih1 _ _ _ _ _ _ _ _ _ _ _ _ _ _ _ _ _ _ _ _ _ _ _ _ _ _ _ _ _ _
   | exact ih2 _ _ _ _ _ _ _ _ _ _ _ _ _ _ _ _ _ _ _ _ _ _ _ _ _ _ _ _ _ _
   | exact ih3 _ _ _ _ _ _ _ _ _ _ _ _ _ _ _ _ _ _ _ _ _ _ _ _ _ _ _ _ _ _
   | exact ih4 _ _ _ _ _ _ _ _ _ _ _ _ _ _ _ _ _ _ _ _ _ _ _ _ _
   | exact ledger_Trial.mono _ _ _ _ _ _ _ _ _ _ _ _ _
   | exact waterfall_Entries.mono _ _ _ _ _ _
   | exact waterfall_Undo.mono _ _ _ _ _ _
   | exact LeO.none _
   | refine LeO.ite ?_ ?_
   | refine LeO.bind ?_ (fun _ => ?_)
  ·
   intro y0 y1 y2 y3 y4 y5 y6 y7 y8 y9 y10 y11 y12 y13 y14 y15 y16 y17 y18 y19 y20 y21 y22 y23 y24 y25 y26 y27 y28 y29
   unfold arrearslaw9_posted.j2
   repeat' first
   | (with_reducible exact ih0 _ _ _ _ _ _ _ _ _ _ _ _ _ _ _ _ _ _ _ _ _ _ _ _ _ _ _ _ _ _)
   | (with_reducible exact ih1 _ _ _ _ _ _ _ _ _ _ _ _ _ _ _ _ _ _ _ _ _ _ _ _ _ _ _ _ _ _)
   | (with_reducible exact ih2 _ _ _ _ _ _ _ _ _ _ _ _ _ _ _ _ _ _ _ _ _ _ _ _ _ _ _ _ _ _)
   | (with_reducible exact ih3 _ _ _ _ _ _ _ _ _ _ _ _ _ _ _ _ _ _ _ _ _ _ _ _ _ _ _ _ _ _)
   | (with_reducible exact ih4 _ _ _ _ _ _ _ _ _ _ _ _ _ _ _ _ _ _ _ _ _ _ _ _ _)
   | (with_reducible exact ledger_Trial.mono _ _ _ _ _ _ _ _ _ _ _ _ _)
   | (with_reducible exact waterfall_Entries.mono _ _ _ _ _ _)
   | (with_reducible exact waterfall_Undo.mono _ _ _ _ _ _)
   | (with_reducible exact LeO.refl _)
   | (with_reducible exact LeO.none _)
   | (with_reducible refine LeO.ite ?_ ?_)
   | (with_reducible refine LeO.bind ?_ (fun _ => ?_))
   | exact ih0 _ _ _ _ _ _ _ _ _ _ _ _ _ _ _ _ _ _ _ _ _ _ _ _ _ _ _ _ _ _
   | exact ih1 _ _ _ _ _ _ _ _ _ _ _ _ _ _ _ _ _ _ _ _ _ _ _ _ _ _ _ _ _ _
   | exact ih2 _ _ _ _ _ _ _ _ _ _ _ _ _ _ _ _ _ _ _ _ _ _ _ _ _ _ _ _ _ _
   | exact ih3 _ _ _ _ _ _ _ _ _ _ _ _ _ _ _ _ _ _ _ _ _ _ _ _ _ _ _ _ _ _
   | exact ih4 _ _ _ _ _ _ _ _ _ _ _ _ _ _ _ _ _ _ _ _ _ _ _ _ _
   | exact ledger_Trial.mono _ _ _ _ _ _ _ _ _ _ _ _ _
   | exact waterfall_Entries.mono _ _ _ _ _ _
   | exact waterfall_Undo.mono _ _ _ _ _ _
   | exact LeO.none _
   | refine LeO.ite ?_ ?_
   | refine LeO.bind ?_ (fun _ => ?_)
  ·
   intro y0 y1 y2 y3 y4 y5 y6 y7 y8 y9 y10 y11 y12 y13 y14 y15 y16 y17 y18 y19 y20 y21 y22 y23 y24 y25 y26 y27 y28 y29
   unfold arrearslaw9_posted.j3
   repeat' first
   | (with_reducible exact ih0 _ _ _ _ _ _ _ _ _ _ _ _ _ _ _ _ _ _ _ _ _ _ _ _ _ _ _ _ _ _)
   | (with_reducible exact ih1 _ _ _ _ _ _ _ _ _ _ _ _ _ _ _ _ _ _ _ _ _ _ _ _ _ _ _ _ _ _)
   | (with_reducible exact ih2 _ _ _ _ _ _ _ _ _ _ _ _ _ _ _ _ _ _ _ _ _ _ _ _ _ _ _ _ _ _)
   | (with_reducible exact ih3 _ _ _ _ _ _ _ _ _ _ _ _ _ _ _ _ _ _ _ _ _ _ _ _ _ _ _ _ _ _)
   | (with_reducible exact ih4 _ _ _ _ _ _ _ _ _ _ _ _ _ _ _ _ _ _ _ _ _ _ _ _ _)
   | (with_reducible exact ledger_Trial.mono _ _ _ _ _ _ _ _ _ _ _ _ _)
   | (with_reducible exact waterfall_Entries.mono _ _ _ _ _ _)
   | (with_reducible exact waterfall_Undo.mono _ _ _ _ _ _)
   | (with_reducible exact LeO.refl _)
   | (with_reducible exact LeO.none _)
   | (with_reducible refine LeO.ite ?_ ?_)
   | (with_reducible refine LeO.bind ?_ (fun _ => ?_))
   | exact ih0 _ _ _ _ _ _ _ _ _ _ _ _ _ _ _ _ _ _ _ _ _ _ _ _ _ _ _ _ _ _
   | exact ih1 _ _ _ _ _ _ _ _ _ _ _ _ _ _ _ _ _ _ _ _ _ _ _ _ _ _ _ _ _ _
   | exact ih2 _ _ _ _ _ _ _ _ _ _ _ _ _ _ _ _ _ _ _ _ _ _ _ _ _ _ _ _ _ _
   | exact ih3 _ _ _ _ _ _ _ _ _ _ _ _ _ _ _ _ _ _ _ _ _ _ _ _ _ _ _ _ _ _
   | exact ih4 _ _ _ _ _ _ _ _ _ _ _ _ _ _ _ _ _ _ _ _ _ _ _ _ _
   | exact ledger_Trial.mono _ _ _ _ _ _ _ _ _ _ _ _ _
   | exact waterfall_Entries.mono _ _ _ _ _ _
   | exact waterfall_Undo.mono _ _ _ _ _ _
   | exact LeO.none _
   | refine LeO.ite ?_ ?_
   | refine LeO.bind ?_ (fun _ => ?_)
  ·
   intro y0 y1 y2 y3 y4 y5 y6 y7 y8 y9 y10 y11 y12 y13 y14 y15 y16 y17 y18 y19 y20 y21 y22 y23 y24
   unfold arrearslaw9_posted.l0
   repeat' first
   | (with_reducible exact ih0 _ _ _ _ _ _ _ _ _ _ _ _ _ _ _ _ _ _ _ _ _ _ _ _ _ _ _ _ _ _)
   | (with_reducible exact ih1 _ _ _ _ _ _ _ _ _ _ _ _ _ _ _ _ _ _ _ _ _ _ _ _ _ _ _ _ _ _)
   | (with_reducible exact ih2 _ _ _ _ _ _ _ _ _ _ _ _ _ _ _ _ _ _ _ _ _ _ _ _ _ _ _ _ _ _)
   | (with_reducible exact ih3 _ _ _ _ _ _ _ _ _ _ _ _ _ _ _ _ _ _ _ _ _ _ _ _ _ _ _ _ _ _)
   | (with_reducible exact ih4 _ _ _ _ _ _ _ _ _ _ _ _ _ _ _ _ _ _ _ _ _ _ _ _ _)
   | (with_reducible exact ledger_Trial.mono _ _ _ _ _ _ _ _ _ _ _ _ _)
   | (with_reducible exact waterfall_Entries.mono _ _ _ _ _ _)
   | (with_reducible exact waterfall_Undo.mono _ _ _ _ _ _)
   | (with_reducible exact LeO.refl _)
   | (with_reducible exact LeO.none _)
   | (with_reducible refine LeO.ite ?_ ?_)
   | (with_reducible refine LeO.bind ?_ (fun _ => ?_))
   | exact ih0 _ _ _ _ _ _ _ _ _ _ _ _ _ _ _ _ _ _ _ _ _ _ _ _ _ _ _ _ _ _
   | exact ih1 _ _ _ _ _ _ _ _ _ _ _ _ _ _ _ _ _ _ _ _ _ _ _ _ _ _ _ _ _ _
   | exact ih2 _ _ _ _ _ _ _ _ _ _ _ _ _ _ _ _ _ _ _ _ _ _ _ _ _ _ _ _ _ _
   | exact ih3 _ _ _ _ _ _ _ _ _ _ _ _ _ _ _ _ _ _ _ _ _ _ _ _ _ _ _ _ _ _
   | exact ih4 _ _ _ _ _ _ _ _ _ _ _ _ _ _ _ _ _ _ _ _ _ _ _ _ _
   | exact ledger_Trial.mono _ _ _ _ _ _ _ _ _ _ _ _ _
   | exact waterfall_Entries.mono _ _ _ _ _ _
   | exact waterfall_Undo.mono _ _ _ _ _ _
   | exact LeO.none _
   | refine LeO.ite ?_ ?_
   | refine LeO.bind ?_ (fun _ => ?_)
theorem arrearslaw9_posted.mono : ∀ a0 a1 a2 a3 a4 a5 a6 a7 a8 a9 a10 a11 a12 a13 a14 a15 a16 a17 k, LeO (arrearslaw9_posted.f k a0 a1 a2 a3 a4 a5 a6 a7 a8 a9 a10 a11 a12 a13 a14 a15 a16 a17) (arrearslaw9_posted.f (k + 1) a0 a1 a2 a3 a4 a5 a6 a7 a8 a9 a10 a11 a12 a13 a14 a15 a16 a17) := by
 intro a0 a1 a2 a3 a4 a5 a6 a7 a8 a9 a10 a11 a12 a13 a14 a15 a16 a17 k
 obtain ⟨ih0, ih1, ih2, ih3, ih4⟩ := arrearslaw9_posted.mono_l k
 unfold arrearslaw9_posted.f
 repeat' first
   | (with_reducible exact ih0 _ _ _ _ _ _ _ _ _ _ _ _ _ _ _ _ _ _ _ _ _ _ _ _ _ _ _ _ _ _)
   | (with_reducible exact ih1 _ _ _ _ _ _ _ _ _ _ _ _ _ _ _ _ _ _ _ _ _ _ _ _ _ _ _ _ _ _)
   | (with_reducible exact ih2 _ _ _ _ _ _ _ _ _ _ _ _ _ _ _ _ _ _ _ _ _ _ _ _ _ _ _ _ _ _)
   | (with_reducible exact ih3 _ _ _ _ _ _ _ _ _ _ _ _ _ _ _ _ _ _ _ _ _ _ _ _ _ _ _ _ _ _)
   | (with_reducible exact ih4 _ _ _ _ _ _ _ _ _ _ _ _ _ _ _ _ _ _ _ _ _ _ _ _ _)
   | (with_reducible exact ledger_Trial.mono _ _ _ _ _ _ _ _ _ _ _ _ _)
   | (with_reducible exact waterfall_Entries.mono _ _ _ _ _ _)
   | (with_reducible exact waterfall_Undo.mono _ _ _ _ _ _)
   | (with_reducible exact LeO.refl _)
   | (with_reducible exact LeO.none _)
   | (with_reducible refine LeO.ite ?_ ?_)
   | (with_reducible refine LeO.bind ?_ (fun _ => ?_))
   | exact ih0 _ _ _ _ _ _ _ _ _ _ _ _ _ _ _ _ _ _ _ _ _ _ _ _ _ _ _ _ _ _
   | exact ih1 _ _ _ _ _ _ _ _ _ _ _ _ _ _ _ _ _ _ _ _ _ _ _ _ _ _ _ _ _ _
   | exact ih2 _ _ _ _ _ _ _ _ _ _ _ _ _ _ _ _ _ _ _ _ _ _ _ _ _ _ _ _ _ _
   | exact ih3 _ _ _ _ _ _ _ _ _ _ _ _ _ _ _ _ _ _ _ _ _ _ _ _ _ _ _ _ _ _
   | exact ih4 _ _ _ _ _ _ _ _ _ _ _ _ _ _ _ _ _ _ _ _ _ _ _ _ _
   | exact ledger_Trial.mono _ _ _ _ _ _ _ _ _ _ _ _ _
   | exact waterfall_Entries.mono _ _ _ _ _ _
   | exact waterfall_Undo.mono _ _ _ _ _ _
   | exact LeO.none _
   | refine LeO.ite ?_ ?_
   | refine LeO.bind ?_ (fun _ => ?_)
def arrearslaw9_posted.T1 : Bool × List (List Nat × List Nat) := (true, [([], []), ([], []), ([1], [1]), ([0, 2, 2], [0, 2]), ([3], [3]), ([4], [4]), ([4], [4]), ([], []), ([7, 5, 3, 0, 1, 2, 3, 4, 5, 7], [5, 7]), ([6, 8, 0, 1, 2, 3, 4, 5, 6, 7, 8], [6])])
def arrearslaw9_posted.B1 : List Nat := [0, 0, 2, 7, 15, 31, 31, 0, 191, 511]
theorem arrearslaw9_posted.tab1 : rtab .any (opsOf Tryd.f15 1) = arrearslaw9_posted.T1 := by kernel_rfl
theorem arrearslaw9_posted.bits1 : waitsOk arrearslaw9_posted.T1.2 arrearslaw9_posted.B1 = true := by kernel_rfl
def arrearslaw9_posted.T11 : Bool × List (List Nat × List Nat) := (true, [([], []), ([], []), ([1], [1]), ([0, 2, 2], [0, 2]), ([3], [3]), ([4], [4]), ([4], [4]), ([], []), ([7, 5, 3, 0, 1, 2, 3, 4, 5, 7], [5, 7]), ([6, 8, 0, 1, 2, 3, 4, 5, 6, 7, 8], [6])])
def arrearslaw9_posted.B11 : List Nat := [0, 0, 2, 7, 15, 31, 31, 0, 191, 511]
theorem arrearslaw9_posted.tab11 : rtab .any (opsOf Tryd.f15 11) = arrearslaw9_posted.T11 := by kernel_rfl
theorem arrearslaw9_posted.bits11 : waitsOk arrearslaw9_posted.T11.2 arrearslaw9_posted.B11 = true := by kernel_rfl
def arrearslaw9_posted.T17 : Bool × List (List Nat × List Nat) := (true, [([], []), ([], []), ([1, 0], [0, 1]), ([2], [2]), ([], []), ([], []), ([5, 4], [4, 5]), ([6], [6]), ([3, 7], [3, 7])])
def arrearslaw9_posted.B17 : List Nat := [0, 0, 3, 7, 0, 0, 48, 112, 255]
theorem arrearslaw9_posted.tab17 : rtab .any (opsOf Tryd.f15 17) = arrearslaw9_posted.T17 := by kernel_rfl
theorem arrearslaw9_posted.bits17 : waitsOk arrearslaw9_posted.T17.2 arrearslaw9_posted.B17 = true := by kernel_rfl
set_option maxHeartbeats 8000000 in
set_option maxRecDepth 100000 in
theorem arrearslaw9_posted.calls (k : Nat) (a0_0 : Int) (a0_1 : Int) (a0_2 : Int) (a0_3 : Int) (a0_4 : Int) (a0_5 : Int) (a0_6 : Int) (a0_7 : Int) (a0_8 : Int) (a0_9 : Int) (a0_10 : Int) (a0_11 : Int) (a1_0 : Int) (a1_1 : Int) (a1_2 : Int) (a1_3 : Int) (a1_4 : Int) (a2 : Int) (r : Bool) (w : World) (hL : Laid w) (h : arrearslaw9_posted.f k a0_0 a0_1 a0_2 a0_3 a0_4 a0_5 a0_6 a0_7 a0_8 a0_9 a0_10 a0_11 a1_0 a1_1 a1_2 a1_3 a1_4 a2 = some r) :
  Calls Tryd.prog 15 #[.agg #[.int .i64 a0_0, .int .i64 a0_1, .int .i64 a0_2, .int .i64 a0_3, .int .i64 a0_4, .int .i64 a0_5, .int .i64 a0_6, .int .i64 a0_7, .int .i64 a0_8, .int .i64 a0_9, .int .i64 a0_10, .int .i64 a0_11], .agg #[.int .i64 a1_0, .int .i64 a1_1, .int .i64 a1_2, .int .i64 a1_3, .int .i64 a1_4], .int .i64 a2] w fun e w' => e = .returned (.bool r) ∧ Below w.heap.size w w' := by
 have HL0_ := Aside0.mk hL
 clear hL
 have hu43 := Tryd.underlying43
 have hu28 := Tryd.underlying28
 have HB := Aside0.mk (Below.refl w.heap.size w)
 have H : ((waterfall_Entries.f k a1_0 a1_1 a1_2 a1_3 a1_4).bind fun t147 => ((ledger_Post.f a0_0 a0_1 a0_2 a0_3 a0_4 a0_5 a0_6 a0_7 a0_8 a0_9 a0_10 a0_11 t147).bind fun bt150 => (if bt150.2.2.2.2.2.2.2.2.2.2.2.2 = 0 then (arrearslaw9_posted.j0 k ((wrap64 (bt150.1 - a0_0)) != a2) a0_0 a0_1 a0_2 a0_3 a0_4 a0_5 a0_6 a0_7 a0_8 a0_9 a0_10 a0_11 a1_0 a1_1 a1_2 a1_3 a1_4 bt150.1 bt150.2.1 bt150.2.2.1 bt150.2.2.2.1 bt150.2.2.2.2.1 bt150.2.2.2.2.2.1 bt150.2.2.2.2.2.2.1 bt150.2.2.2.2.2.2.2.1 bt150.2.2.2.2.2.2.2.2.1 bt150.2.2.2.2.2.2.2.2.2.1 bt150.2.2.2.2.2.2.2.2.2.2.1 bt150.2.2.2.2.2.2.2.2.2.2.2.1) else (arrearslaw9_posted.j0 k true a0_0 a0_1 a0_2 a0_3 a0_4 a0_5 a0_6 a0_7 a0_8 a0_9 a0_10 a0_11 a1_0 a1_1 a1_2 a1_3 a1_4 bt150.1 bt150.2.1 bt150.2.2.1 bt150.2.2.2.1 bt150.2.2.2.2.1 bt150.2.2.2.2.2.1 bt150.2.2.2.2.2.2.1 bt150.2.2.2.2.2.2.2.1 bt150.2.2.2.2.2.2.2.2.1 bt150.2.2.2.2.2.2.2.2.2.1 bt150.2.2.2.2.2.2.2.2.2.2.1 bt150.2.2.2.2.2.2.2.2.2.2.2.1)))) = some r := h
 clear h
 replace H := Option.bind_eq_some_iff.mp H
 obtain ⟨t147, A40, H⟩ := H
 replace H : ((ledger_Post.f a0_0 a0_1 a0_2 a0_3 a0_4 a0_5 a0_6 a0_7 a0_8 a0_9 a0_10 a0_11 t147).bind fun bt150 => (if bt150.2.2.2.2.2.2.2.2.2.2.2.2 = 0 then (arrearslaw9_posted.j0 k ((wrap64 (bt150.1 - a0_0)) != a2) a0_0 a0_1 a0_2 a0_3 a0_4 a0_5 a0_6 a0_7 a0_8 a0_9 a0_10 a0_11 a1_0 a1_1 a1_2 a1_3 a1_4 bt150.1 bt150.2.1 bt150.2.2.1 bt150.2.2.2.1 bt150.2.2.2.2.1 bt150.2.2.2.2.2.1 bt150.2.2.2.2.2.2.1 bt150.2.2.2.2.2.2.2.1 bt150.2.2.2.2.2.2.2.2.1 bt150.2.2.2.2.2.2.2.2.2.1 bt150.2.2.2.2.2.2.2.2.2.2.1 bt150.2.2.2.2.2.2.2.2.2.2.2.1) else (arrearslaw9_posted.j0 k true a0_0 a0_1 a0_2 a0_3 a0_4 a0_5 a0_6 a0_7 a0_8 a0_9 a0_10 a0_11 a1_0 a1_1 a1_2 a1_3 a1_4 bt150.1 bt150.2.1 bt150.2.2.1 bt150.2.2.2.1 bt150.2.2.2.2.1 bt150.2.2.2.2.2.1 bt150.2.2.2.2.2.2.1 bt150.2.2.2.2.2.2.2.1 bt150.2.2.2.2.2.2.2.2.1 bt150.2.2.2.2.2.2.2.2.2.1 bt150.2.2.2.2.2.2.2.2.2.2.1 bt150.2.2.2.2.2.2.2.2.2.2.2.1))) = some r := H
 have A4 := Aside0.mk A40
 clear A40
 replace H := Option.bind_eq_some_iff.mp H
 obtain ⟨⟨t150, t151, t152, t153, t154, t155, t156, t157, t158, t159, t160, t161, t162⟩, A50, H⟩ := H
 replace H : (if t162 = 0 then (arrearslaw9_posted.j0 k ((wrap64 (t150 - a0_0)) != a2) a0_0 a0_1 a0_2 a0_3 a0_4 a0_5 a0_6 a0_7 a0_8 a0_9 a0_10 a0_11 a1_0 a1_1 a1_2 a1_3 a1_4 t150 t151 t152 t153 t154 t155 t156 t157 t158 t159 t160 t161) else (arrearslaw9_posted.j0 k true a0_0 a0_1 a0_2 a0_3 a0_4 a0_5 a0_6 a0_7 a0_8 a0_9 a0_10 a0_11 a1_0 a1_1 a1_2 a1_3 a1_4 t150 t151 t152 t153 t154 t155 t156 t157 t158 t159 t160 t161)) = some r := H
 have A5 := Aside0.mk A50
 clear A50
 have HC6 := Aside0.mk H
 clear H
 go_enter Tryd.func15, Tryd.ntmps15
 try go_wp2_with (first | ((with_reducible refine gate_dst (N := 3) rfl ?_); refine box_event ?hg (N := 3) ?hd (cs := #[.int .i64 a0_0, .int .i64 a0_1, .int .i64 a0_2, .int .i64 a0_3, .int .i64 a0_4, .int .i64 a0_5, .int .i64 a0_6, .int .i64 a0_7, .int .i64 a0_8, .int .i64 a0_9, .int .i64 a0_10, .int .i64 a0_11]) (t := 43) ?hr ?_; (case hd => rfl); (case hg => rfl); (case hr => first | (go_simp; done) | (go_simp; rfl)); intro gb145 hg w7 hbox hb; have n0_ := Aside0.mk (below_step (by repeat (first | (with_reducible first | exact HB.out | apply below_alloc | apply pw_below_drewN | apply below_drew1) | exact HB.out)) hb); have n1_ := Aside0.mk (hbox); have n2_ := Aside0.mk ((by rw [hg]; exact (below_size (by repeat (first | (with_reducible first | exact HB.out | apply below_alloc | apply pw_below_drewN | apply below_drew1) | exact HB.out))) : w.heap.size ≤ gb145)); have n3_ := Aside0.mk ((by rw [hg]; exact (below_size (by repeat (first | (with_reducible first | exact HB.out | apply below_alloc | apply pw_below_drewN | apply below_drew1) | exact HB.out))) : w.heap.size ≤ gb145)); clear HB; have HB := n0_; have BK145 := n1_; have GW145 := n2_; have GE145 := n3_; clear n0_ n1_ n2_ n3_; clear hb hbox hg) | ((with_reducible refine gate_dst (N := 4) rfl ?_); refine box_event ?hg (N := 4) ?hd (cs := #[.int .i64 a1_0, .int .i64 a1_1, .int .i64 a1_2, .int .i64 a1_3, .int .i64 a1_4]) (t := 28) ?hr ?_; (case hd => rfl); (case hg => rfl); (case hr => first | (go_simp; done) | (go_simp; rfl)); intro gb146 hg w8 hbox hb; have n0_ := Aside0.mk (blk_below (g := gb145) (o := .cells #[.int .i64 a0_0, .int .i64 a0_1, .int .i64 a0_2, .int .i64 a0_3, .int .i64 a0_4, .int .i64 a0_5, .int .i64 a0_6, .int .i64 a0_7, .int .i64 a0_8, .int .i64 a0_9, .int .i64 a0_10, .int .i64 a0_11] 43 (0, 0)) (by (with_reducible repeat (first | refine blk_drewN ?_ _ | refine blk_drew ?_ | refine blk_alloc ?_ _)); exact BK145.out) hb); have n1_ := Aside0.mk (below_step (by repeat (first | (with_reducible first | exact HB.out | apply below_alloc | apply pw_below_drewN | apply below_drew1 | refine below_set ?_ GE145.out) | exact HB.out)) hb); have n2_ := Aside0.mk (hbox); have n3_ := Aside0.mk ((by rw [hg]; exact (below_size (by repeat (first | (with_reducible first | exact HB.out | apply below_alloc | apply pw_below_drewN | apply below_drew1 | refine below_set ?_ GE145.out) | exact HB.out))) : w.heap.size ≤ gb146)); have n4_ := Aside0.mk ((by rw [hg]; exact (below_size (by repeat (first | (with_reducible first | exact HB.out | apply below_alloc | apply pw_below_drewN | apply below_drew1 | refine below_set ?_ GE145.out) | exact HB.out))) : w.heap.size ≤ gb146)); have n5_ := Aside0.mk ((by rw [hg]; exact Nat.ne_of_lt (blk_lt (g := gb145) (o := .cells #[.int .i64 a0_0, .int .i64 a0_1, .int .i64 a0_2, .int .i64 a0_3, .int .i64 a0_4, .int .i64 a0_5, .int .i64 a0_6, .int .i64 a0_7, .int .i64 a0_8, .int .i64 a0_9, .int .i64 a0_10, .int .i64 a0_11] 43 (0, 0)) (by (with_reducible repeat (first | refine blk_drewN ?_ _ | refine blk_drew ?_ | refine blk_alloc ?_ _)); exact BK145.out)) : gb145 ≠ gb146)); have n6_ := Aside0.mk ((by rw [hg]; exact Nat.ne_of_gt (blk_lt (g := gb145) (o := .cells #[.int .i64 a0_0, .int .i64 a0_1, .int .i64 a0_2, .int .i64 a0_3, .int .i64 a0_4, .int .i64 a0_5, .int .i64 a0_6, .int .i64 a0_7, .int .i64 a0_8, .int .i64 a0_9, .int .i64 a0_10, .int .i64 a0_11] 43 (0, 0)) (by (with_reducible repeat (first | refine blk_drewN ?_ _ | refine blk_drew ?_ | refine blk_alloc ?_ _)); exact BK145.out)) : gb146 ≠ gb145)); clear BK145; clear HB; have BK145 := n0_; have HB := n1_; have BK146 := n2_; have GW146 := n3_; have GE146 := n4_; have NB145_146 := n5_; have NB146_145 := n6_; clear n0_ n1_ n2_ n3_ n4_ n5_ n6_; clear hb hbox hg))
 have n0_ := Aside0.mk (blk_drew BK145.out)
 have n1_ := Aside0.mk (blk_drew BK146.out)
 have n2_ := Aside0.mk (below_drew1 HB.out)
 clear BK145
 clear BK146
 clear HB
 have BK145 := n0_
 have BK146 := n1_
 have HB := n2_
 clear n0_ n1_ n2_
 refine start_ (n := 10) (S := fun w' => w'.cell? ⟨gb145, 0, none⟩ = some (.int .i64 a0_0) ∧ w'.cell? ⟨gb145, 1, none⟩ = some (.int .i64 a0_1) ∧ w'.cell? ⟨gb145, 2, none⟩ = some (.int .i64 a0_2) ∧ w'.cell? ⟨gb145, 3, none⟩ = some (.int .i64 a0_3) ∧ w'.cell? ⟨gb145, 4, none⟩ = some (.int .i64 a0_4) ∧ w'.cell? ⟨gb145, 5, none⟩ = some (.int .i64 a0_5) ∧ w'.cell? ⟨gb145, 6, none⟩ = some (.int .i64 a0_6) ∧ w'.cell? ⟨gb145, 7, none⟩ = some (.int .i64 a0_7) ∧ w'.cell? ⟨gb145, 8, none⟩ = some (.int .i64 a0_8) ∧ w'.cell? ⟨gb145, 9, none⟩ = some (.int .i64 a0_9) ∧ w'.cell? ⟨gb145, 10, none⟩ = some (.int .i64 a0_10) ∧ w'.cell? ⟨gb145, 11, none⟩ = some (.int .i64 a0_11) ∧ w'.cell? ⟨gb146, 0, none⟩ = some (.int .i64 a1_0) ∧ w'.cell? ⟨gb146, 1, none⟩ = some (.int .i64 a1_1) ∧ w'.cell? ⟨gb146, 2, none⟩ = some (.int .i64 a1_2) ∧ w'.cell? ⟨gb146, 3, none⟩ = some (.int .i64 a1_3) ∧ w'.cell? ⟨gb146, 4, none⟩ = some (.int .i64 a1_4)) (ds := []) #[false, false, false, false, false, false, false, false, false, false] (by kernel_rfl) rfl rfl ⟨(blk_cell BK145.out 0).trans rfl, (blk_cell BK145.out 1).trans rfl, (blk_cell BK145.out 2).trans rfl, (blk_cell BK145.out 3).trans rfl, (blk_cell BK145.out 4).trans rfl, (blk_cell BK145.out 5).trans rfl, (blk_cell BK145.out 6).trans rfl, (blk_cell BK145.out 7).trans rfl, (blk_cell BK145.out 8).trans rfl, (blk_cell BK145.out 9).trans rfl, (blk_cell BK145.out 10).trans rfl, (blk_cell BK145.out 11).trans rfl, (blk_cell BK146.out 0).trans rfl, (blk_cell BK146.out 1).trans rfl, (blk_cell BK146.out 2).trans rfl, (blk_cell BK146.out 3).trans rfl, (blk_cell BK146.out 4).trans rfl⟩ (fun hHeld => ?_); refine with_tabW arrearslaw9_posted.tab1 arrearslaw9_posted.bits1 (fun HT_ HW_ => ?_)
 generalize w8.drew = w9 at BK145 BK146 HB hHeld ⊢
 refine take_ (i := 0) (N := some 16) (v := ?_) (a' := ?_) #[true, false, false, false, false, false, false, false, false, false] rfl rfl (take_ofW HT_.out HW_.out (by kernel_rfl)) (fun _ _ _ h => h) (Or.inl ⟨by rfl, ?_⟩) hHeld ?_ ?_
 rotate_left
 ·
  rintro w' ⟨s0, s1, s2, s3, s4, s5, s6, s7, s8, s9, s10, s11, s12, s13, s14, s15, s16⟩
  go_simp
  with_reducible rfl
 rotate_left
 ·
  simp only [Act.put, List.setIfInBounds_toArray, List.set_cons_zero, List.set_cons_succ, i64_w, i32_w]
  rfl
 refine take_ (i := 1) (N := some 17) (v := ?_) (a' := ?_) #[true, true, false, false, false, false, false, false, false, false] rfl rfl (take_ofW HT_.out HW_.out (by kernel_rfl)) (fun _ _ _ h => h) (Or.inl ⟨by rfl, ?_⟩) hHeld ?_ ?_
 rotate_left
 ·
  rintro w' ⟨s0, s1, s2, s3, s4, s5, s6, s7, s8, s9, s10, s11, s12, s13, s14, s15, s16⟩
  go_simp
  with_reducible rfl
 rotate_left
 ·
  simp only [Act.put, List.setIfInBounds_toArray, List.set_cons_zero, List.set_cons_succ, i64_w, i32_w]
  rfl
 refine join_ (σ := Value × Nat) 2 #[true, true, true, true, true, true, true, true, false, false] (fun s_ => [(18, s_.1), (19, .tuple #[.agg #[.int .i64 t150, .int .i64 t151, .int .i64 t152, .int .i64 t153, .int .i64 t154, .int .i64 t155, .int .i64 t156, .int .i64 t157, .int .i64 t158, .int .i64 t159, .int .i64 t160, .int .i64 t161], .int .i64 t162]), (7, .pointer (some ⟨s_.2, 0, none⟩)), (15, .tuple #[.agg #[.int .i64 t150, .int .i64 t151, .int .i64 t152, .int .i64 t153, .int .i64 t154, .int .i64 t155, .int .i64 t156, .int .i64 t157, .int .i64 t158, .int .i64 t159, .int .i64 t160, .int .i64 t161], .int .i64 t162]), (20, .agg #[.int .i64 t150, .int .i64 t151, .int .i64 t152, .int .i64 t153, .int .i64 t154, .int .i64 t155, .int .i64 t156, .int .i64 t157, .int .i64 t158, .int .i64 t159, .int .i64 t160, .int .i64 t161]), (21, .int .i64 t162)]) (fun s_ w' => (w'.cell? ⟨gb145, 0, none⟩ = some (.int .i64 a0_0) ∧ w'.cell? ⟨gb145, 1, none⟩ = some (.int .i64 a0_1) ∧ w'.cell? ⟨gb145, 2, none⟩ = some (.int .i64 a0_2) ∧ w'.cell? ⟨gb145, 3, none⟩ = some (.int .i64 a0_3) ∧ w'.cell? ⟨gb145, 4, none⟩ = some (.int .i64 a0_4) ∧ w'.cell? ⟨gb145, 5, none⟩ = some (.int .i64 a0_5) ∧ w'.cell? ⟨gb145, 6, none⟩ = some (.int .i64 a0_6) ∧ w'.cell? ⟨gb145, 7, none⟩ = some (.int .i64 a0_7) ∧ w'.cell? ⟨gb145, 8, none⟩ = some (.int .i64 a0_8) ∧ w'.cell? ⟨gb145, 9, none⟩ = some (.int .i64 a0_9) ∧ w'.cell? ⟨gb145, 10, none⟩ = some (.int .i64 a0_10) ∧ w'.cell? ⟨gb145, 11, none⟩ = some (.int .i64 a0_11) ∧ w'.cell? ⟨gb146, 0, none⟩ = some (.int .i64 a1_0) ∧ w'.cell? ⟨gb146, 1, none⟩ = some (.int .i64 a1_1) ∧ w'.cell? ⟨gb146, 2, none⟩ = some (.int .i64 a1_2) ∧ w'.cell? ⟨gb146, 3, none⟩ = some (.int .i64 a1_3) ∧ w'.cell? ⟨gb146, 4, none⟩ = some (.int .i64 a1_4)) ∧ (Kd.R k63 63 w' w.heap.size (fun _ => True) s_.1 t147) ∧ (w'.heap[gb145]? = some (.cells #[.int .i64 a0_0, .int .i64 a0_1, .int .i64 a0_2, .int .i64 a0_3, .int .i64 a0_4, .int .i64 a0_5, .int .i64 a0_6, .int .i64 a0_7, .int .i64 a0_8, .int .i64 a0_9, .int .i64 a0_10, .int .i64 a0_11] 43 (0, 0))) ∧ (w'.heap[gb146]? = some (.cells #[.int .i64 a1_0, .int .i64 a1_1, .int .i64 a1_2, .int .i64 a1_3, .int .i64 a1_4] 28 (0, 0))) ∧ (w'.heap[s_.2]? = some (.cells #[.int .i64 0, .int .i64 0, .int .i64 0, .int .i64 0, .int .i64 0, .int .i64 0, .int .i64 0, .int .i64 0, .int .i64 0, .int .i64 0, .int .i64 0, .int .i64 0] 43 (0, 0))) ∧ (w.heap.size ≤ s_.2) ∧ (w.heap.size ≤ s_.2) ∧ (gb145 ≠ s_.2) ∧ (s_.2 ≠ gb145) ∧ (gb146 ≠ s_.2) ∧ (s_.2 ≠ gb146) ∧ (Below w.heap.size w w')) ?_ ?_
 rotate_left
 ·
  intro hCont
  refine two_ (i := 2) (j := 7) (Ni := some 18) (Nj := some 7) #[true, true, true, false, false, false, false, false, false, false] #[true, true, false, false, false, false, false, true, false, false] rfl rfl rfl rfl (two_of HT_.out (by kernel_rfl)) (by decide) (by decide) (fun K hK => ?_) (fun K hK => ?_)
  ·
   skip
   refine goes_ Tryd.func21 (by kernel_rfl) rfl #[.agg #[.int .i64 a1_0, .int .i64 a1_1, .int .i64 a1_2, .int .i64 a1_3, .int .i64 a1_4]] (by rfl) rfl rfl (by (try simp only [List.map_toArray, List.map_cons, List.map_nil]); first | done | rfl | (simp only [List.length_drop, List.length_take]; rfl)) ?_
   with_reducible refine (waterfall_Entries.calls k a1_0 a1_1 a1_2 a1_3 a1_4 t147 _ A4.out).mono ?_
   rintro e w10 ⟨v148, rfl, ho0, hb⟩
   refine ⟨_, rfl, ?_⟩
   have n0_ := Aside0.mk (Kd.R_lower ho0 (below_size (by repeat (first | (with_reducible first | exact HB.out | apply below_alloc | apply pw_below_drewN | apply below_drew1 | refine below_set ?_ (Aside0.out (by assumption))) | exact HB.out))))
   have n1_ := Aside0.mk (blk_below (g := gb145) (o := .cells #[.int .i64 a0_0, .int .i64 a0_1, .int .i64 a0_2, .int .i64 a0_3, .int .i64 a0_4, .int .i64 a0_5, .int .i64 a0_6, .int .i64 a0_7, .int .i64 a0_8, .int .i64 a0_9, .int .i64 a0_10, .int .i64 a0_11] 43 (0, 0)) (by (with_reducible repeat (first | refine blk_drewN ?_ _ | refine blk_drew ?_ | refine blk_alloc ?_ _)); exact BK145.out) hb)
   have n2_ := Aside0.mk (blk_below (g := gb146) (o := .cells #[.int .i64 a1_0, .int .i64 a1_1, .int .i64 a1_2, .int .i64 a1_3, .int .i64 a1_4] 28 (0, 0)) (by (with_reducible repeat (first | refine blk_drewN ?_ _ | refine blk_drew ?_ | refine blk_alloc ?_ _)); exact BK146.out) hb)
   have n3_ := Aside0.mk (below_step (by repeat (first | (with_reducible first | exact HB.out | apply below_alloc | apply pw_below_drewN | apply below_drew1 | refine below_set ?_ (Aside0.out (by assumption))) | exact HB.out)) hb)
   clear BK145
   clear BK146
   clear HB
   have HO149 := n0_
   have BK145 := n1_
   have BK146 := n2_
   have HB := n3_
   clear n0_ n1_ n2_ n3_
   (try clear hb)
   (try clear hb2)
   (try clear hk)
   (try clear hi)
   (try clear ho0)
   obtain ⟨Ao11, co11, eo11⟩ := Kd.R_slice HO149.out
   (first | subst eo11 | (injection eo11 with f1_ f2_ f3_; have f4_ := f1_.symm; have f5_ := f3_.symm; clear f1_ f2_ f3_; subst f4_; subst f5_))
   refine hK.out _ _ ⟨(blk_cell BK145.out 0).trans rfl, (blk_cell BK145.out 1).trans rfl, (blk_cell BK145.out 2).trans rfl, (blk_cell BK145.out 3).trans rfl, (blk_cell BK145.out 4).trans rfl, (blk_cell BK145.out 5).trans rfl, (blk_cell BK145.out 6).trans rfl, (blk_cell BK145.out 7).trans rfl, (blk_cell BK145.out 8).trans rfl, (blk_cell BK145.out 9).trans rfl, (blk_cell BK145.out 10).trans rfl, (blk_cell BK145.out 11).trans rfl, (blk_cell BK146.out 0).trans rfl, (blk_cell BK146.out 1).trans rfl, (blk_cell BK146.out 2).trans rfl, (blk_cell BK146.out 3).trans rfl, (blk_cell BK146.out 4).trans rfl⟩ (fun hHeld => ?_)
   clear hK K
   refine norm_ (a' := ?_) ?_ ?_
   rotate_left
   ·
    show Act.put _ (some 18) _ = _
    simp only [Act.put, List.setIfInBounds_toArray, List.set_cons_zero, List.set_cons_succ, i64_w, i32_w]
    rfl
   refine two_ (i := 3) (j := 7) (Ni := some 19) (Nj := some 7) #[true, true, true, true, false, false, false, false, false, false] #[true, true, true, false, false, false, false, true, false, false] rfl rfl rfl rfl (two_of HT_.out (by kernel_rfl)) (by decide) (by decide) (fun K hK => ?_) (fun K hK => ?_)
   ·
    skip
    refine goes_ Tryd.func20 (by kernel_rfl) rfl #[.agg #[.int .i64 a0_0, .int .i64 a0_1, .int .i64 a0_2, .int .i64 a0_3, .int .i64 a0_4, .int .i64 a0_5, .int .i64 a0_6, .int .i64 a0_7, .int .i64 a0_8, .int .i64 a0_9, .int .i64 a0_10, .int .i64 a0_11], .slice Ao11 t147.length co11] (by rfl) rfl rfl (by (try simp only [List.map_toArray, List.map_cons, List.map_nil]); first | done | rfl | (simp only [List.length_drop, List.length_take]; rfl)) ?_
    with_reducible refine (ledger_Post.calls a0_0 a0_1 a0_2 a0_3 a0_4 a0_5 a0_6 a0_7 a0_8 a0_9 a0_10 a0_11 _ _ t147 t150 t151 t152 t153 t154 t155 t156 t157 t158 t159 t160 t161 t162 _ ?side1 ?side2 ?sideL A5.out).mono ?_; (case sideL => exact laid_at HL0_.out (by repeat (first | (with_reducible first | exact HB.out | apply below_alloc | apply pw_below_drewN | apply below_drew1 | refine below_set ?_ (Aside0.out (by assumption))) | exact HB.out | exact Below.refl _ _ | exact Drawn0.below (Drawn0.refl _))))
    (case side1 => repeat (first | exact (Kd.R_reads' HO149.out).2.2 | (with_reducible refine Kd.C_alloc ?_ _) | (with_reducible refine Kd.C_drewN ?_ _) | (with_reducible refine Kd.C_drew ?_)))
    (case side2 => exact (Kd.R_reads' HO149.out).2.1)
    rintro e w12 ⟨rfl, hb⟩
    refine ⟨_, rfl, ?_⟩
    have n0_ := Aside0.mk (Kd.R_below (by (with_reducible repeat (first | apply Kd.R_alloc | apply Kd.R_drewN | apply Kd.R_drew)); exact HO149.out) hb)
    have n1_ := Aside0.mk (blk_below (g := gb145) (o := .cells #[.int .i64 a0_0, .int .i64 a0_1, .int .i64 a0_2, .int .i64 a0_3, .int .i64 a0_4, .int .i64 a0_5, .int .i64 a0_6, .int .i64 a0_7, .int .i64 a0_8, .int .i64 a0_9, .int .i64 a0_10, .int .i64 a0_11] 43 (0, 0)) (by (with_reducible repeat (first | refine blk_drewN ?_ _ | refine blk_drew ?_ | refine blk_alloc ?_ _)); exact BK145.out) hb)
    have n2_ := Aside0.mk (blk_below (g := gb146) (o := .cells #[.int .i64 a1_0, .int .i64 a1_1, .int .i64 a1_2, .int .i64 a1_3, .int .i64 a1_4] 28 (0, 0)) (by (with_reducible repeat (first | refine blk_drewN ?_ _ | refine blk_drew ?_ | refine blk_alloc ?_ _)); exact BK146.out) hb)
    have n3_ := Aside0.mk (below_step (by repeat (first | (with_reducible first | exact HB.out | apply below_alloc | apply pw_below_drewN | apply below_drew1 | refine below_set ?_ (Aside0.out (by assumption))) | exact HB.out)) hb)
    clear HO149
    clear BK145
    clear BK146
    clear HB
    have HO149 := n0_
    have BK145 := n1_
    have BK146 := n2_
    have HB := n3_
    clear n0_ n1_ n2_ n3_
    (try clear hb)
    (try clear hb2)
    (try clear hk)
    (try clear hi)
    refine hK.out _ _ ⟨(blk_cell BK145.out 0).trans rfl, (blk_cell BK145.out 1).trans rfl, (blk_cell BK145.out 2).trans rfl, (blk_cell BK145.out 3).trans rfl, (blk_cell BK145.out 4).trans rfl, (blk_cell BK145.out 5).trans rfl, (blk_cell BK145.out 6).trans rfl, (blk_cell BK145.out 7).trans rfl, (blk_cell BK145.out 8).trans rfl, (blk_cell BK145.out 9).trans rfl, (blk_cell BK145.out 10).trans rfl, (blk_cell BK145.out 11).trans rfl, (blk_cell BK146.out 0).trans rfl, (blk_cell BK146.out 1).trans rfl, (blk_cell BK146.out 2).trans rfl, (blk_cell BK146.out 3).trans rfl, (blk_cell BK146.out 4).trans rfl⟩ (fun hHeld => ?_)
    clear hK K
    refine norm_ (a' := ?_) ?_ ?_
    rotate_left
    ·
     show Act.put _ (some 19) _ = _
     simp only [Act.put, List.setIfInBounds_toArray, List.set_cons_zero, List.set_cons_succ, i64_w, i32_w]
     rfl
    refine pure_ (i := 4) (N := some 15) (v := ?_) (a' := ?_) #[true, true, true, true, true, false, false, false, false, false] rfl rfl (any_of HT_.out (by kernel_rfl)) (fun _ _ _ h => h) (Or.inl ⟨by rfl, ?_⟩) ?_ ?_
    rotate_left
    ·
     intro w'
     go_simp
     with_reducible rfl
    rotate_left
    ·
     simp only [Act.put, List.setIfInBounds_toArray, List.set_cons_zero, List.set_cons_succ, i64_w, i32_w]
     rfl
    refine pure_ (i := 5) (N := some 20) (v := ?_) (a' := ?_) #[true, true, true, true, true, true, false, false, false, false] rfl rfl (any_of HT_.out (by kernel_rfl)) (fun _ _ _ h => h) (Or.inl ⟨by rfl, ?_⟩) ?_ ?_
    rotate_left
    ·
     intro w'
     go_simp
     with_reducible rfl
    rotate_left
    ·
     simp only [Act.put, List.setIfInBounds_toArray, List.set_cons_zero, List.set_cons_succ, i64_w, i32_w]
     rfl
    refine pure_ (i := 6) (N := some 21) (v := ?_) (a' := ?_) #[true, true, true, true, true, true, true, false, false, false] rfl rfl (any_of HT_.out (by kernel_rfl)) (fun _ _ _ h => h) (Or.inl ⟨by rfl, ?_⟩) ?_ ?_
    rotate_left
    ·
     intro w'
     go_simp
     with_reducible rfl
    rotate_left
    ·
     simp only [Act.put, List.setIfInBounds_toArray, List.set_cons_zero, List.set_cons_succ, i64_w, i32_w]
     rfl
    refine one_ (i := 7) (N := some 7) #[true, true, true, true, true, true, true, true, false, false] rfl rfl (one_of HT_.out (by kernel_rfl)) (by decide) (fun K hK => ?_)
    refine box_step ?hg (N := 7) ?hd (cs := #[.int .i64 0, .int .i64 0, .int .i64 0, .int .i64 0, .int .i64 0, .int .i64 0, .int .i64 0, .int .i64 0, .int .i64 0, .int .i64 0, .int .i64 0, .int .i64 0]) (t := 43) ?hr ?_; (case hd => rfl); (case hg => rfl); (case hr => first | (go_simp; done) | (go_simp; rfl))
    intro gb163 hg w13 hbox hb
    have n0_ := Aside0.mk (Kd.R_below (by (with_reducible repeat (first | apply Kd.R_alloc | apply Kd.R_drewN | apply Kd.R_drew)); exact HO149.out) hb)
    have n1_ := Aside0.mk (blk_below (g := gb145) (o := .cells #[.int .i64 a0_0, .int .i64 a0_1, .int .i64 a0_2, .int .i64 a0_3, .int .i64 a0_4, .int .i64 a0_5, .int .i64 a0_6, .int .i64 a0_7, .int .i64 a0_8, .int .i64 a0_9, .int .i64 a0_10, .int .i64 a0_11] 43 (0, 0)) (by (with_reducible repeat (first | refine blk_drewN ?_ _ | refine blk_drew ?_ | refine blk_alloc ?_ _)); exact BK145.out) hb)
    have n2_ := Aside0.mk (blk_below (g := gb146) (o := .cells #[.int .i64 a1_0, .int .i64 a1_1, .int .i64 a1_2, .int .i64 a1_3, .int .i64 a1_4] 28 (0, 0)) (by (with_reducible repeat (first | refine blk_drewN ?_ _ | refine blk_drew ?_ | refine blk_alloc ?_ _)); exact BK146.out) hb)
    have n3_ := Aside0.mk (below_step (by repeat (first | (with_reducible first | exact HB.out | apply below_alloc | apply pw_below_drewN | apply below_drew1 | refine below_set ?_ (Aside0.out (by assumption))) | exact HB.out)) hb)
    have n4_ := Aside0.mk (hbox)
    have n5_ := Aside0.mk ((by rw [hg]; exact (below_size (by repeat (first | (with_reducible first | exact HB.out | apply below_alloc | apply pw_below_drewN | apply below_drew1 | refine below_set ?_ (Aside0.out (by assumption))) | exact HB.out))) : w.heap.size ≤ gb163))
    have n6_ := Aside0.mk ((by rw [hg]; exact (below_size (by repeat (first | (with_reducible first | exact HB.out | apply below_alloc | apply pw_below_drewN | apply below_drew1 | refine below_set ?_ (Aside0.out (by assumption))) | exact HB.out))) : w.heap.size ≤ gb163))
    have n7_ := Aside0.mk ((by rw [hg]; exact Nat.ne_of_lt (blk_lt (g := gb145) (o := .cells #[.int .i64 a0_0, .int .i64 a0_1, .int .i64 a0_2, .int .i64 a0_3, .int .i64 a0_4, .int .i64 a0_5, .int .i64 a0_6, .int .i64 a0_7, .int .i64 a0_8, .int .i64 a0_9, .int .i64 a0_10, .int .i64 a0_11] 43 (0, 0)) (by (with_reducible repeat (first | refine blk_drewN ?_ _ | refine blk_drew ?_ | refine blk_alloc ?_ _)); exact BK145.out)) : gb145 ≠ gb163))
    have n8_ := Aside0.mk ((by rw [hg]; exact Nat.ne_of_gt (blk_lt (g := gb145) (o := .cells #[.int .i64 a0_0, .int .i64 a0_1, .int .i64 a0_2, .int .i64 a0_3, .int .i64 a0_4, .int .i64 a0_5, .int .i64 a0_6, .int .i64 a0_7, .int .i64 a0_8, .int .i64 a0_9, .int .i64 a0_10, .int .i64 a0_11] 43 (0, 0)) (by (with_reducible repeat (first | refine blk_drewN ?_ _ | refine blk_drew ?_ | refine blk_alloc ?_ _)); exact BK145.out)) : gb163 ≠ gb145))
    have n9_ := Aside0.mk ((by rw [hg]; exact Nat.ne_of_lt (blk_lt (g := gb146) (o := .cells #[.int .i64 a1_0, .int .i64 a1_1, .int .i64 a1_2, .int .i64 a1_3, .int .i64 a1_4] 28 (0, 0)) (by (with_reducible repeat (first | refine blk_drewN ?_ _ | refine blk_drew ?_ | refine blk_alloc ?_ _)); exact BK146.out)) : gb146 ≠ gb163))
    have n10_ := Aside0.mk ((by rw [hg]; exact Nat.ne_of_gt (blk_lt (g := gb146) (o := .cells #[.int .i64 a1_0, .int .i64 a1_1, .int .i64 a1_2, .int .i64 a1_3, .int .i64 a1_4] 28 (0, 0)) (by (with_reducible repeat (first | refine blk_drewN ?_ _ | refine blk_drew ?_ | refine blk_alloc ?_ _)); exact BK146.out)) : gb163 ≠ gb146))
    clear HO149
    clear BK145
    clear BK146
    clear HB
    have HO149 := n0_
    have BK145 := n1_
    have BK146 := n2_
    have HB := n3_
    have BK163 := n4_
    have GW163 := n5_
    have GE163 := n6_
    have NB145_163 := n7_
    have NB163_145 := n8_
    have NB146_163 := n9_
    have NB163_146 := n10_
    clear n0_ n1_ n2_ n3_ n4_ n5_ n6_ n7_ n8_ n9_ n10_
    clear hb hbox hg
    refine hK.out _ _ ⟨(blk_cell BK145.out 0).trans rfl, (blk_cell BK145.out 1).trans rfl, (blk_cell BK145.out 2).trans rfl, (blk_cell BK145.out 3).trans rfl, (blk_cell BK145.out 4).trans rfl, (blk_cell BK145.out 5).trans rfl, (blk_cell BK145.out 6).trans rfl, (blk_cell BK145.out 7).trans rfl, (blk_cell BK145.out 8).trans rfl, (blk_cell BK145.out 9).trans rfl, (blk_cell BK145.out 10).trans rfl, (blk_cell BK145.out 11).trans rfl, (blk_cell BK146.out 0).trans rfl, (blk_cell BK146.out 1).trans rfl, (blk_cell BK146.out 2).trans rfl, (blk_cell BK146.out 3).trans rfl, (blk_cell BK146.out 4).trans rfl⟩ (fun hHeld => ?_)
    clear hK K
    refine norm_ (a' := ?_) ?_ ?_
    rotate_left
    ·
     show Act.put _ (some 7) _ = _
     simp only [Act.put, List.setIfInBounds_toArray, List.set_cons_zero, List.set_cons_succ, i64_w, i32_w]
     rfl
    exact norm_ (by simp only [putAll, Act.put, List.setIfInBounds_toArray, List.set_cons_zero, List.set_cons_succ]) (hCont (.slice Ao11 t147.length co11, gb163) _ ⟨hHeld, (by (with_reducible repeat (first | apply Kd.R_alloc | apply Kd.R_drewN | apply Kd.R_drew)); exact HO149.out), (by (with_reducible repeat (first | refine blk_drewN ?_ _ | refine blk_drew ?_ | refine blk_alloc ?_ _)); exact BK145.out), (by (with_reducible repeat (first | refine blk_drewN ?_ _ | refine blk_drew ?_ | refine blk_alloc ?_ _)); exact BK146.out), (by (with_reducible repeat (first | refine blk_drewN ?_ _ | refine blk_drew ?_ | refine blk_alloc ?_ _)); exact BK163.out), GW163.out, GE163.out, NB145_163.out, NB163_145.out, NB146_163.out, NB163_146.out, (by repeat (first | (with_reducible first | exact HB.out | apply below_alloc | apply pw_below_drewN | apply below_drew1 | refine below_set ?_ (Aside0.out (by assumption))) | exact HB.out))⟩)
   ·
    skip
    refine box_step ?hg (N := 7) ?hd (cs := #[.int .i64 0, .int .i64 0, .int .i64 0, .int .i64 0, .int .i64 0, .int .i64 0, .int .i64 0, .int .i64 0, .int .i64 0, .int .i64 0, .int .i64 0, .int .i64 0]) (t := 43) ?hr ?_; (case hd => rfl); (case hg => rfl); (case hr => first | (go_simp; done) | (go_simp; rfl))
    intro gb163 hg w11 hbox hb
    have n0_ := Aside0.mk (Kd.R_below (by (with_reducible repeat (first | apply Kd.R_alloc | apply Kd.R_drewN | apply Kd.R_drew)); exact HO149.out) hb)
    have n1_ := Aside0.mk (blk_below (g := gb145) (o := .cells #[.int .i64 a0_0, .int .i64 a0_1, .int .i64 a0_2, .int .i64 a0_3, .int .i64 a0_4, .int .i64 a0_5, .int .i64 a0_6, .int .i64 a0_7, .int .i64 a0_8, .int .i64 a0_9, .int .i64 a0_10, .int .i64 a0_11] 43 (0, 0)) (by (with_reducible repeat (first | refine blk_drewN ?_ _ | refine blk_drew ?_ | refine blk_alloc ?_ _)); exact BK145.out) hb)
    have n2_ := Aside0.mk (blk_below (g := gb146) (o := .cells #[.int .i64 a1_0, .int .i64 a1_1, .int .i64 a1_2, .int .i64 a1_3, .int .i64 a1_4] 28 (0, 0)) (by (with_reducible repeat (first | refine blk_drewN ?_ _ | refine blk_drew ?_ | refine blk_alloc ?_ _)); exact BK146.out) hb)
    have n3_ := Aside0.mk (below_step (by repeat (first | (with_reducible first | exact HB.out | apply below_alloc | apply pw_below_drewN | apply below_drew1 | refine below_set ?_ (Aside0.out (by assumption))) | exact HB.out)) hb)
    have n4_ := Aside0.mk (hbox)
    have n5_ := Aside0.mk ((by rw [hg]; exact (below_size (by repeat (first | (with_reducible first | exact HB.out | apply below_alloc | apply pw_below_drewN | apply below_drew1 | refine below_set ?_ (Aside0.out (by assumption))) | exact HB.out))) : w.heap.size ≤ gb163))
    have n6_ := Aside0.mk ((by rw [hg]; exact (below_size (by repeat (first | (with_reducible first | exact HB.out | apply below_alloc | apply pw_below_drewN | apply below_drew1 | refine below_set ?_ (Aside0.out (by assumption))) | exact HB.out))) : w.heap.size ≤ gb163))
    have n7_ := Aside0.mk ((by rw [hg]; exact Nat.ne_of_lt (blk_lt (g := gb145) (o := .cells #[.int .i64 a0_0, .int .i64 a0_1, .int .i64 a0_2, .int .i64 a0_3, .int .i64 a0_4, .int .i64 a0_5, .int .i64 a0_6, .int .i64 a0_7, .int .i64 a0_8, .int .i64 a0_9, .int .i64 a0_10, .int .i64 a0_11] 43 (0, 0)) (by (with_reducible repeat (first | refine blk_drewN ?_ _ | refine blk_drew ?_ | refine blk_alloc ?_ _)); exact BK145.out)) : gb145 ≠ gb163))
    have n8_ := Aside0.mk ((by rw [hg]; exact Nat.ne_of_gt (blk_lt (g := gb145) (o := .cells #[.int .i64 a0_0, .int .i64 a0_1, .int .i64 a0_2, .int .i64 a0_3, .int .i64 a0_4, .int .i64 a0_5, .int .i64 a0_6, .int .i64 a0_7, .int .i64 a0_8, .int .i64 a0_9, .int .i64 a0_10, .int .i64 a0_11] 43 (0, 0)) (by (with_reducible repeat (first | refine blk_drewN ?_ _ | refine blk_drew ?_ | refine blk_alloc ?_ _)); exact BK145.out)) : gb163 ≠ gb145))
    have n9_ := Aside0.mk ((by rw [hg]; exact Nat.ne_of_lt (blk_lt (g := gb146) (o := .cells #[.int .i64 a1_0, .int .i64 a1_1, .int .i64 a1_2, .int .i64 a1_3, .int .i64 a1_4] 28 (0, 0)) (by (with_reducible repeat (first | refine blk_drewN ?_ _ | refine blk_drew ?_ | refine blk_alloc ?_ _)); exact BK146.out)) : gb146 ≠ gb163))
    have n10_ := Aside0.mk ((by rw [hg]; exact Nat.ne_of_gt (blk_lt (g := gb146) (o := .cells #[.int .i64 a1_0, .int .i64 a1_1, .int .i64 a1_2, .int .i64 a1_3, .int .i64 a1_4] 28 (0, 0)) (by (with_reducible repeat (first | refine blk_drewN ?_ _ | refine blk_drew ?_ | refine blk_alloc ?_ _)); exact BK146.out)) : gb163 ≠ gb146))
    clear HO149
    clear BK145
    clear BK146
    clear HB
    have HO149 := n0_
    have BK145 := n1_
    have BK146 := n2_
    have HB := n3_
    have BK163 := n4_
    have GW163 := n5_
    have GE163 := n6_
    have NB145_163 := n7_
    have NB163_145 := n8_
    have NB146_163 := n9_
    have NB163_146 := n10_
    clear n0_ n1_ n2_ n3_ n4_ n5_ n6_ n7_ n8_ n9_ n10_
    clear hb hbox hg
    obtain ⟨Ao12, co12, eo12⟩ := Kd.R_slice HO149.out
    (first | subst eo12 | (injection eo12 with f1_ f2_ f3_; have f4_ := f1_.symm; have f5_ := f3_.symm; clear f1_ f2_ f3_; subst f4_; subst f5_))
    refine hK.out _ _ ⟨(blk_cell BK145.out 0).trans rfl, (blk_cell BK145.out 1).trans rfl, (blk_cell BK145.out 2).trans rfl, (blk_cell BK145.out 3).trans rfl, (blk_cell BK145.out 4).trans rfl, (blk_cell BK145.out 5).trans rfl, (blk_cell BK145.out 6).trans rfl, (blk_cell BK145.out 7).trans rfl, (blk_cell BK145.out 8).trans rfl, (blk_cell BK145.out 9).trans rfl, (blk_cell BK145.out 10).trans rfl, (blk_cell BK145.out 11).trans rfl, (blk_cell BK146.out 0).trans rfl, (blk_cell BK146.out 1).trans rfl, (blk_cell BK146.out 2).trans rfl, (blk_cell BK146.out 3).trans rfl, (blk_cell BK146.out 4).trans rfl⟩ (fun hHeld => ?_)
    clear hK K
    refine norm_ (a' := ?_) ?_ ?_
    rotate_left
    ·
     show Act.put _ (some 7) _ = _
     simp only [Act.put, List.setIfInBounds_toArray, List.set_cons_zero, List.set_cons_succ, i64_w, i32_w]
     rfl
    refine one_ (i := 3) (N := some 19) #[true, true, true, true, false, false, false, true, false, false] rfl rfl (one_of HT_.out (by kernel_rfl)) (by decide) (fun K hK => ?_)
    refine goes_ Tryd.func20 (by kernel_rfl) rfl #[.agg #[.int .i64 a0_0, .int .i64 a0_1, .int .i64 a0_2, .int .i64 a0_3, .int .i64 a0_4, .int .i64 a0_5, .int .i64 a0_6, .int .i64 a0_7, .int .i64 a0_8, .int .i64 a0_9, .int .i64 a0_10, .int .i64 a0_11], .slice Ao12 t147.length co12] (by rfl) rfl rfl (by (try simp only [List.map_toArray, List.map_cons, List.map_nil]); first | done | rfl | (simp only [List.length_drop, List.length_take]; rfl)) ?_
    with_reducible refine (ledger_Post.calls a0_0 a0_1 a0_2 a0_3 a0_4 a0_5 a0_6 a0_7 a0_8 a0_9 a0_10 a0_11 _ _ t147 t150 t151 t152 t153 t154 t155 t156 t157 t158 t159 t160 t161 t162 _ ?side1 ?side2 ?sideL A5.out).mono ?_; (case sideL => exact laid_at HL0_.out (by repeat (first | (with_reducible first | exact HB.out | apply below_alloc | apply pw_below_drewN | apply below_drew1 | refine below_set ?_ (Aside0.out (by assumption))) | exact HB.out | exact Below.refl _ _ | exact Drawn0.below (Drawn0.refl _))))
    (case side1 => repeat (first | exact (Kd.R_reads' HO149.out).2.2 | (with_reducible refine Kd.C_alloc ?_ _) | (with_reducible refine Kd.C_drewN ?_ _) | (with_reducible refine Kd.C_drew ?_)))
    (case side2 => exact (Kd.R_reads' HO149.out).2.1)
    rintro e w13 ⟨rfl, hb⟩
    refine ⟨_, rfl, ?_⟩
    have n0_ := Aside0.mk (Kd.R_below (by (with_reducible repeat (first | apply Kd.R_alloc | apply Kd.R_drewN | apply Kd.R_drew)); exact HO149.out) hb)
    have n1_ := Aside0.mk (blk_below (g := gb145) (o := .cells #[.int .i64 a0_0, .int .i64 a0_1, .int .i64 a0_2, .int .i64 a0_3, .int .i64 a0_4, .int .i64 a0_5, .int .i64 a0_6, .int .i64 a0_7, .int .i64 a0_8, .int .i64 a0_9, .int .i64 a0_10, .int .i64 a0_11] 43 (0, 0)) (by (with_reducible repeat (first | refine blk_drewN ?_ _ | refine blk_drew ?_ | refine blk_alloc ?_ _)); exact BK145.out) hb)
    have n2_ := Aside0.mk (blk_below (g := gb146) (o := .cells #[.int .i64 a1_0, .int .i64 a1_1, .int .i64 a1_2, .int .i64 a1_3, .int .i64 a1_4] 28 (0, 0)) (by (with_reducible repeat (first | refine blk_drewN ?_ _ | refine blk_drew ?_ | refine blk_alloc ?_ _)); exact BK146.out) hb)
    have n3_ := Aside0.mk (blk_below (g := gb163) (o := .cells #[.int .i64 0, .int .i64 0, .int .i64 0, .int .i64 0, .int .i64 0, .int .i64 0, .int .i64 0, .int .i64 0, .int .i64 0, .int .i64 0, .int .i64 0, .int .i64 0] 43 (0, 0)) (by (with_reducible repeat (first | refine blk_drewN ?_ _ | refine blk_drew ?_ | refine blk_alloc ?_ _)); exact BK163.out) hb)
    have n4_ := Aside0.mk (below_step (by repeat (first | (with_reducible first | exact HB.out | apply below_alloc | apply pw_below_drewN | apply below_drew1 | refine below_set ?_ (Aside0.out (by assumption))) | exact HB.out)) hb)
    clear HO149
    clear BK145
    clear BK146
    clear BK163
    clear HB
    have HO149 := n0_
    have BK145 := n1_
    have BK146 := n2_
    have BK163 := n3_
    have HB := n4_
    clear n0_ n1_ n2_ n3_ n4_
    (try clear hb)
    (try clear hb2)
    (try clear hk)
    (try clear hi)
    refine hK.out _ _ ⟨(blk_cell BK145.out 0).trans rfl, (blk_cell BK145.out 1).trans rfl, (blk_cell BK145.out 2).trans rfl, (blk_cell BK145.out 3).trans rfl, (blk_cell BK145.out 4).trans rfl, (blk_cell BK145.out 5).trans rfl, (blk_cell BK145.out 6).trans rfl, (blk_cell BK145.out 7).trans rfl, (blk_cell BK145.out 8).trans rfl, (blk_cell BK145.out 9).trans rfl, (blk_cell BK145.out 10).trans rfl, (blk_cell BK145.out 11).trans rfl, (blk_cell BK146.out 0).trans rfl, (blk_cell BK146.out 1).trans rfl, (blk_cell BK146.out 2).trans rfl, (blk_cell BK146.out 3).trans rfl, (blk_cell BK146.out 4).trans rfl⟩ (fun hHeld => ?_)
    clear hK K
    refine norm_ (a' := ?_) ?_ ?_
    rotate_left
    ·
     show Act.put _ (some 19) _ = _
     simp only [Act.put, List.setIfInBounds_toArray, List.set_cons_zero, List.set_cons_succ, i64_w, i32_w]
     rfl
    refine pure_ (i := 4) (N := some 15) (v := ?_) (a' := ?_) #[true, true, true, true, true, false, false, true, false, false] rfl rfl (any_of HT_.out (by kernel_rfl)) (fun _ _ _ h => h) (Or.inl ⟨by rfl, ?_⟩) ?_ ?_
    rotate_left
    ·
     intro w'
     go_simp
     with_reducible rfl
    rotate_left
    ·
     simp only [Act.put, List.setIfInBounds_toArray, List.set_cons_zero, List.set_cons_succ, i64_w, i32_w]
     rfl
    refine pure_ (i := 5) (N := some 20) (v := ?_) (a' := ?_) #[true, true, true, true, true, true, false, true, false, false] rfl rfl (any_of HT_.out (by kernel_rfl)) (fun _ _ _ h => h) (Or.inl ⟨by rfl, ?_⟩) ?_ ?_
    rotate_left
    ·
     intro w'
     go_simp
     with_reducible rfl
    rotate_left
    ·
     simp only [Act.put, List.setIfInBounds_toArray, List.set_cons_zero, List.set_cons_succ, i64_w, i32_w]
     rfl
    refine pure_ (i := 6) (N := some 21) (v := ?_) (a' := ?_) #[true, true, true, true, true, true, true, true, false, false] rfl rfl (any_of HT_.out (by kernel_rfl)) (fun _ _ _ h => h) (Or.inl ⟨by rfl, ?_⟩) ?_ ?_
    rotate_left
    ·
     intro w'
     go_simp
     with_reducible rfl
    rotate_left
    ·
     simp only [Act.put, List.setIfInBounds_toArray, List.set_cons_zero, List.set_cons_succ, i64_w, i32_w]
     rfl
    exact norm_ (by simp only [putAll, Act.put, List.setIfInBounds_toArray, List.set_cons_zero, List.set_cons_succ]) (hCont (.slice Ao12 t147.length co12, gb163) _ ⟨hHeld, (by (with_reducible repeat (first | apply Kd.R_alloc | apply Kd.R_drewN | apply Kd.R_drew)); exact HO149.out), (by (with_reducible repeat (first | refine blk_drewN ?_ _ | refine blk_drew ?_ | refine blk_alloc ?_ _)); exact BK145.out), (by (with_reducible repeat (first | refine blk_drewN ?_ _ | refine blk_drew ?_ | refine blk_alloc ?_ _)); exact BK146.out), (by (with_reducible repeat (first | refine blk_drewN ?_ _ | refine blk_drew ?_ | refine blk_alloc ?_ _)); exact BK163.out), GW163.out, GE163.out, NB145_163.out, NB163_145.out, NB146_163.out, NB163_146.out, (by repeat (first | (with_reducible first | exact HB.out | apply below_alloc | apply pw_below_drewN | apply below_drew1 | refine below_set ?_ (Aside0.out (by assumption))) | exact HB.out))⟩)
  ·
   skip
   refine box_step ?hg (N := 7) ?hd (cs := #[.int .i64 0, .int .i64 0, .int .i64 0, .int .i64 0, .int .i64 0, .int .i64 0, .int .i64 0, .int .i64 0, .int .i64 0, .int .i64 0, .int .i64 0, .int .i64 0]) (t := 43) ?hr ?_; (case hd => rfl); (case hg => rfl); (case hr => first | (go_simp; done) | (go_simp; rfl))
   intro gb163 hg w10 hbox hb
   have n0_ := Aside0.mk (blk_below (g := gb145) (o := .cells #[.int .i64 a0_0, .int .i64 a0_1, .int .i64 a0_2, .int .i64 a0_3, .int .i64 a0_4, .int .i64 a0_5, .int .i64 a0_6, .int .i64 a0_7, .int .i64 a0_8, .int .i64 a0_9, .int .i64 a0_10, .int .i64 a0_11] 43 (0, 0)) (by (with_reducible repeat (first | refine blk_drewN ?_ _ | refine blk_drew ?_ | refine blk_alloc ?_ _)); exact BK145.out) hb)
   have n1_ := Aside0.mk (blk_below (g := gb146) (o := .cells #[.int .i64 a1_0, .int .i64 a1_1, .int .i64 a1_2, .int .i64 a1_3, .int .i64 a1_4] 28 (0, 0)) (by (with_reducible repeat (first | refine blk_drewN ?_ _ | refine blk_drew ?_ | refine blk_alloc ?_ _)); exact BK146.out) hb)
   have n2_ := Aside0.mk (below_step (by repeat (first | (with_reducible first | exact HB.out | apply below_alloc | apply pw_below_drewN | apply below_drew1 | refine below_set ?_ (Aside0.out (by assumption))) | exact HB.out)) hb)
   have n3_ := Aside0.mk (hbox)
   have n4_ := Aside0.mk ((by rw [hg]; exact (below_size (by repeat (first | (with_reducible first | exact HB.out | apply below_alloc | apply pw_below_drewN | apply below_drew1 | refine below_set ?_ (Aside0.out (by assumption))) | exact HB.out))) : w.heap.size ≤ gb163))
   have n5_ := Aside0.mk ((by rw [hg]; exact (below_size (by repeat (first | (with_reducible first | exact HB.out | apply below_alloc | apply pw_below_drewN | apply below_drew1 | refine below_set ?_ (Aside0.out (by assumption))) | exact HB.out))) : w.heap.size ≤ gb163))
   have n6_ := Aside0.mk ((by rw [hg]; exact Nat.ne_of_lt (blk_lt (g := gb145) (o := .cells #[.int .i64 a0_0, .int .i64 a0_1, .int .i64 a0_2, .int .i64 a0_3, .int .i64 a0_4, .int .i64 a0_5, .int .i64 a0_6, .int .i64 a0_7, .int .i64 a0_8, .int .i64 a0_9, .int .i64 a0_10, .int .i64 a0_11] 43 (0, 0)) (by (with_reducible repeat (first | refine blk_drewN ?_ _ | refine blk_drew ?_ | refine blk_alloc ?_ _)); exact BK145.out)) : gb145 ≠ gb163))
   have n7_ := Aside0.mk ((by rw [hg]; exact Nat.ne_of_gt (blk_lt (g := gb145) (o := .cells #[.int .i64 a0_0, .int .i64 a0_1, .int .i64 a0_2, .int .i64 a0_3, .int .i64 a0_4, .int .i64 a0_5, .int .i64 a0_6, .int .i64 a0_7, .int .i64 a0_8, .int .i64 a0_9, .int .i64 a0_10, .int .i64 a0_11] 43 (0, 0)) (by (with_reducible repeat (first | refine blk_drewN ?_ _ | refine blk_drew ?_ | refine blk_alloc ?_ _)); exact BK145.out)) : gb163 ≠ gb145))
   have n8_ := Aside0.mk ((by rw [hg]; exact Nat.ne_of_lt (blk_lt (g := gb146) (o := .cells #[.int .i64 a1_0, .int .i64 a1_1, .int .i64 a1_2, .int .i64 a1_3, .int .i64 a1_4] 28 (0, 0)) (by (with_reducible repeat (first | refine blk_drewN ?_ _ | refine blk_drew ?_ | refine blk_alloc ?_ _)); exact BK146.out)) : gb146 ≠ gb163))
   have n9_ := Aside0.mk ((by rw [hg]; exact Nat.ne_of_gt (blk_lt (g := gb146) (o := .cells #[.int .i64 a1_0, .int .i64 a1_1, .int .i64 a1_2, .int .i64 a1_3, .int .i64 a1_4] 28 (0, 0)) (by (with_reducible repeat (first | refine blk_drewN ?_ _ | refine blk_drew ?_ | refine blk_alloc ?_ _)); exact BK146.out)) : gb163 ≠ gb146))
   clear BK145
   clear BK146
   clear HB
   have BK145 := n0_
   have BK146 := n1_
   have HB := n2_
   have BK163 := n3_
   have GW163 := n4_
   have GE163 := n5_
   have NB145_163 := n6_
   have NB163_145 := n7_
   have NB146_163 := n8_
   have NB163_146 := n9_
   clear n0_ n1_ n2_ n3_ n4_ n5_ n6_ n7_ n8_ n9_
   clear hb hbox hg
   refine hK.out _ _ ⟨(blk_cell BK145.out 0).trans rfl, (blk_cell BK145.out 1).trans rfl, (blk_cell BK145.out 2).trans rfl, (blk_cell BK145.out 3).trans rfl, (blk_cell BK145.out 4).trans rfl, (blk_cell BK145.out 5).trans rfl, (blk_cell BK145.out 6).trans rfl, (blk_cell BK145.out 7).trans rfl, (blk_cell BK145.out 8).trans rfl, (blk_cell BK145.out 9).trans rfl, (blk_cell BK145.out 10).trans rfl, (blk_cell BK145.out 11).trans rfl, (blk_cell BK146.out 0).trans rfl, (blk_cell BK146.out 1).trans rfl, (blk_cell BK146.out 2).trans rfl, (blk_cell BK146.out 3).trans rfl, (blk_cell BK146.out 4).trans rfl⟩ (fun hHeld => ?_)
   clear hK K
   refine norm_ (a' := ?_) ?_ ?_
   rotate_left
   ·
    show Act.put _ (some 7) _ = _
    simp only [Act.put, List.setIfInBounds_toArray, List.set_cons_zero, List.set_cons_succ, i64_w, i32_w]
    rfl
   refine one_ (i := 2) (N := some 18) #[true, true, true, false, false, false, false, true, false, false] rfl rfl (one_of HT_.out (by kernel_rfl)) (by decide) (fun K hK => ?_)
   refine goes_ Tryd.func21 (by kernel_rfl) rfl #[.agg #[.int .i64 a1_0, .int .i64 a1_1, .int .i64 a1_2, .int .i64 a1_3, .int .i64 a1_4]] (by rfl) rfl rfl (by (try simp only [List.map_toArray, List.map_cons, List.map_nil]); first | done | rfl | (simp only [List.length_drop, List.length_take]; rfl)) ?_
   with_reducible refine (waterfall_Entries.calls k a1_0 a1_1 a1_2 a1_3 a1_4 t147 _ A4.out).mono ?_
   rintro e w11 ⟨v148, rfl, ho0, hb⟩
   refine ⟨_, rfl, ?_⟩
   have n0_ := Aside0.mk (Kd.R_lower ho0 (below_size (by repeat (first | (with_reducible first | exact HB.out | apply below_alloc | apply pw_below_drewN | apply below_drew1 | refine below_set ?_ (Aside0.out (by assumption))) | exact HB.out))))
   have n1_ := Aside0.mk (blk_below (g := gb145) (o := .cells #[.int .i64 a0_0, .int .i64 a0_1, .int .i64 a0_2, .int .i64 a0_3, .int .i64 a0_4, .int .i64 a0_5, .int .i64 a0_6, .int .i64 a0_7, .int .i64 a0_8, .int .i64 a0_9, .int .i64 a0_10, .int .i64 a0_11] 43 (0, 0)) (by (with_reducible repeat (first | refine blk_drewN ?_ _ | refine blk_drew ?_ | refine blk_alloc ?_ _)); exact BK145.out) hb)
   have n2_ := Aside0.mk (blk_below (g := gb146) (o := .cells #[.int .i64 a1_0, .int .i64 a1_1, .int .i64 a1_2, .int .i64 a1_3, .int .i64 a1_4] 28 (0, 0)) (by (with_reducible repeat (first | refine blk_drewN ?_ _ | refine blk_drew ?_ | refine blk_alloc ?_ _)); exact BK146.out) hb)
   have n3_ := Aside0.mk (blk_below (g := gb163) (o := .cells #[.int .i64 0, .int .i64 0, .int .i64 0, .int .i64 0, .int .i64 0, .int .i64 0, .int .i64 0, .int .i64 0, .int .i64 0, .int .i64 0, .int .i64 0, .int .i64 0] 43 (0, 0)) (by (with_reducible repeat (first | refine blk_drewN ?_ _ | refine blk_drew ?_ | refine blk_alloc ?_ _)); exact BK163.out) hb)
   have n4_ := Aside0.mk (below_step (by repeat (first | (with_reducible first | exact HB.out | apply below_alloc | apply pw_below_drewN | apply below_drew1 | refine below_set ?_ (Aside0.out (by assumption))) | exact HB.out)) hb)
   clear BK145
   clear BK146
   clear BK163
   clear HB
   have HO149 := n0_
   have BK145 := n1_
   have BK146 := n2_
   have BK163 := n3_
   have HB := n4_
   clear n0_ n1_ n2_ n3_ n4_
   (try clear hb)
   (try clear hb2)
   (try clear hk)
   (try clear hi)
   (try clear ho0)
   obtain ⟨Ao12, co12, eo12⟩ := Kd.R_slice HO149.out
   (first | subst eo12 | (injection eo12 with f1_ f2_ f3_; have f4_ := f1_.symm; have f5_ := f3_.symm; clear f1_ f2_ f3_; subst f4_; subst f5_))
   refine hK.out _ _ ⟨(blk_cell BK145.out 0).trans rfl, (blk_cell BK145.out 1).trans rfl, (blk_cell BK145.out 2).trans rfl, (blk_cell BK145.out 3).trans rfl, (blk_cell BK145.out 4).trans rfl, (blk_cell BK145.out 5).trans rfl, (blk_cell BK145.out 6).trans rfl, (blk_cell BK145.out 7).trans rfl, (blk_cell BK145.out 8).trans rfl, (blk_cell BK145.out 9).trans rfl, (blk_cell BK145.out 10).trans rfl, (blk_cell BK145.out 11).trans rfl, (blk_cell BK146.out 0).trans rfl, (blk_cell BK146.out 1).trans rfl, (blk_cell BK146.out 2).trans rfl, (blk_cell BK146.out 3).trans rfl, (blk_cell BK146.out 4).trans rfl⟩ (fun hHeld => ?_)
   clear hK K
   refine norm_ (a' := ?_) ?_ ?_
   rotate_left
   ·
    show Act.put _ (some 18) _ = _
    simp only [Act.put, List.setIfInBounds_toArray, List.set_cons_zero, List.set_cons_succ, i64_w, i32_w]
    rfl
   refine one_ (i := 3) (N := some 19) #[true, true, true, true, false, false, false, true, false, false] rfl rfl (one_of HT_.out (by kernel_rfl)) (by decide) (fun K hK => ?_)
   refine goes_ Tryd.func20 (by kernel_rfl) rfl #[.agg #[.int .i64 a0_0, .int .i64 a0_1, .int .i64 a0_2, .int .i64 a0_3, .int .i64 a0_4, .int .i64 a0_5, .int .i64 a0_6, .int .i64 a0_7, .int .i64 a0_8, .int .i64 a0_9, .int .i64 a0_10, .int .i64 a0_11], .slice Ao12 t147.length co12] (by rfl) rfl rfl (by (try simp only [List.map_toArray, List.map_cons, List.map_nil]); first | done | rfl | (simp only [List.length_drop, List.length_take]; rfl)) ?_
   with_reducible refine (ledger_Post.calls a0_0 a0_1 a0_2 a0_3 a0_4 a0_5 a0_6 a0_7 a0_8 a0_9 a0_10 a0_11 _ _ t147 t150 t151 t152 t153 t154 t155 t156 t157 t158 t159 t160 t161 t162 _ ?side1 ?side2 ?sideL A5.out).mono ?_; (case sideL => exact laid_at HL0_.out (by repeat (first | (with_reducible first | exact HB.out | apply below_alloc | apply pw_below_drewN | apply below_drew1 | refine below_set ?_ (Aside0.out (by assumption))) | exact HB.out | exact Below.refl _ _ | exact Drawn0.below (Drawn0.refl _))))
   (case side1 => repeat (first | exact (Kd.R_reads' HO149.out).2.2 | (with_reducible refine Kd.C_alloc ?_ _) | (with_reducible refine Kd.C_drewN ?_ _) | (with_reducible refine Kd.C_drew ?_)))
   (case side2 => exact (Kd.R_reads' HO149.out).2.1)
   rintro e w13 ⟨rfl, hb⟩
   refine ⟨_, rfl, ?_⟩
   have n0_ := Aside0.mk (Kd.R_below (by (with_reducible repeat (first | apply Kd.R_alloc | apply Kd.R_drewN | apply Kd.R_drew)); exact HO149.out) hb)
   have n1_ := Aside0.mk (blk_below (g := gb145) (o := .cells #[.int .i64 a0_0, .int .i64 a0_1, .int .i64 a0_2, .int .i64 a0_3, .int .i64 a0_4, .int .i64 a0_5, .int .i64 a0_6, .int .i64 a0_7, .int .i64 a0_8, .int .i64 a0_9, .int .i64 a0_10, .int .i64 a0_11] 43 (0, 0)) (by (with_reducible repeat (first | refine blk_drewN ?_ _ | refine blk_drew ?_ | refine blk_alloc ?_ _)); exact BK145.out) hb)
   have n2_ := Aside0.mk (blk_below (g := gb146) (o := .cells #[.int .i64 a1_0, .int .i64 a1_1, .int .i64 a1_2, .int .i64 a1_3, .int .i64 a1_4] 28 (0, 0)) (by (with_reducible repeat (first | refine blk_drewN ?_ _ | refine blk_drew ?_ | refine blk_alloc ?_ _)); exact BK146.out) hb)
   have n3_ := Aside0.mk (blk_below (g := gb163) (o := .cells #[.int .i64 0, .int .i64 0, .int .i64 0, .int .i64 0, .int .i64 0, .int .i64 0, .int .i64 0, .int .i64 0, .int .i64 0, .int .i64 0, .int .i64 0, .int .i64 0] 43 (0, 0)) (by (with_reducible repeat (first | refine blk_drewN ?_ _ | refine blk_drew ?_ | refine blk_alloc ?_ _)); exact BK163.out) hb)
   have n4_ := Aside0.mk (below_step (by repeat (first | (with_reducible first | exact HB.out | apply below_alloc | apply pw_below_drewN | apply below_drew1 | refine below_set ?_ (Aside0.out (by assumption))) | exact HB.out)) hb)
   clear HO149
   clear BK145
   clear BK146
   clear BK163
   clear HB
   have HO149 := n0_
   have BK145 := n1_
   have BK146 := n2_
   have BK163 := n3_
   have HB := n4_
   clear n0_ n1_ n2_ n3_ n4_
   (try clear hb)
   (try clear hb2)
   (try clear hk)
   (try clear hi)
   refine hK.out _ _ ⟨(blk_cell BK145.out 0).trans rfl, (blk_cell BK145.out 1).trans rfl, (blk_cell BK145.out 2).trans rfl, (blk_cell BK145.out 3).trans rfl, (blk_cell BK145.out 4).trans rfl, (blk_cell BK145.out 5).trans rfl, (blk_cell BK145.out 6).trans rfl, (blk_cell BK145.out 7).trans rfl, (blk_cell BK145.out 8).trans rfl, (blk_cell BK145.out 9).trans rfl, (blk_cell BK145.out 10).trans rfl, (blk_cell BK145.out 11).trans rfl, (blk_cell BK146.out 0).trans rfl, (blk_cell BK146.out 1).trans rfl, (blk_cell BK146.out 2).trans rfl, (blk_cell BK146.out 3).trans rfl, (blk_cell BK146.out 4).trans rfl⟩ (fun hHeld => ?_)
   clear hK K
   refine norm_ (a' := ?_) ?_ ?_
   rotate_left
   ·
    show Act.put _ (some 19) _ = _
    simp only [Act.put, List.setIfInBounds_toArray, List.set_cons_zero, List.set_cons_succ, i64_w, i32_w]
    rfl
   refine pure_ (i := 4) (N := some 15) (v := ?_) (a' := ?_) #[true, true, true, true, true, false, false, true, false, false] rfl rfl (any_of HT_.out (by kernel_rfl)) (fun _ _ _ h => h) (Or.inl ⟨by rfl, ?_⟩) ?_ ?_
   rotate_left
   ·
    intro w'
    go_simp
    with_reducible rfl
   rotate_left
   ·
    simp only [Act.put, List.setIfInBounds_toArray, List.set_cons_zero, List.set_cons_succ, i64_w, i32_w]
    rfl
   refine pure_ (i := 5) (N := some 20) (v := ?_) (a' := ?_) #[true, true, true, true, true, true, false, true, false, false] rfl rfl (any_of HT_.out (by kernel_rfl)) (fun _ _ _ h => h) (Or.inl ⟨by rfl, ?_⟩) ?_ ?_
   rotate_left
   ·
    intro w'
    go_simp
    with_reducible rfl
   rotate_left
   ·
    simp only [Act.put, List.setIfInBounds_toArray, List.set_cons_zero, List.set_cons_succ, i64_w, i32_w]
    rfl
   refine pure_ (i := 6) (N := some 21) (v := ?_) (a' := ?_) #[true, true, true, true, true, true, true, true, false, false] rfl rfl (any_of HT_.out (by kernel_rfl)) (fun _ _ _ h => h) (Or.inl ⟨by rfl, ?_⟩) ?_ ?_
   rotate_left
   ·
    intro w'
    go_simp
    with_reducible rfl
   rotate_left
   ·
    simp only [Act.put, List.setIfInBounds_toArray, List.set_cons_zero, List.set_cons_succ, i64_w, i32_w]
    rfl
   exact norm_ (by simp only [putAll, Act.put, List.setIfInBounds_toArray, List.set_cons_zero, List.set_cons_succ]) (hCont (.slice Ao12 t147.length co12, gb163) _ ⟨hHeld, (by (with_reducible repeat (first | apply Kd.R_alloc | apply Kd.R_drewN | apply Kd.R_drew)); exact HO149.out), (by (with_reducible repeat (first | refine blk_drewN ?_ _ | refine blk_drew ?_ | refine blk_alloc ?_ _)); exact BK145.out), (by (with_reducible repeat (first | refine blk_drewN ?_ _ | refine blk_drew ?_ | refine blk_alloc ?_ _)); exact BK146.out), (by (with_reducible repeat (first | refine blk_drewN ?_ _ | refine blk_drew ?_ | refine blk_alloc ?_ _)); exact BK163.out), GW163.out, GE163.out, NB145_163.out, NB163_145.out, NB146_163.out, NB163_146.out, (by repeat (first | (with_reducible first | exact HB.out | apply below_alloc | apply pw_below_drewN | apply below_drew1 | refine below_set ?_ (Aside0.out (by assumption))) | exact HB.out))⟩)
 rintro ⟨v148, gb163⟩ w14 ⟨hS_, h0_, h1_, h2_, h3_, h4_, h5_, h6_, h7_, h8_, h9_, h10_⟩
 have n0_ : Aside0 (Kd.R k63 63 w14 w.heap.size (fun _ => True) v148 t147) := ⟨h0_⟩
 have n1_ : Aside0 (w14.heap[gb145]? = some (.cells #[.int .i64 a0_0, .int .i64 a0_1, .int .i64 a0_2, .int .i64 a0_3, .int .i64 a0_4, .int .i64 a0_5, .int .i64 a0_6, .int .i64 a0_7, .int .i64 a0_8, .int .i64 a0_9, .int .i64 a0_10, .int .i64 a0_11] 43 (0, 0))) := ⟨h1_⟩
 have n2_ : Aside0 (w14.heap[gb146]? = some (.cells #[.int .i64 a1_0, .int .i64 a1_1, .int .i64 a1_2, .int .i64 a1_3, .int .i64 a1_4] 28 (0, 0))) := ⟨h2_⟩
 have n3_ : Aside0 (w14.heap[gb163]? = some (.cells #[.int .i64 0, .int .i64 0, .int .i64 0, .int .i64 0, .int .i64 0, .int .i64 0, .int .i64 0, .int .i64 0, .int .i64 0, .int .i64 0, .int .i64 0, .int .i64 0] 43 (0, 0))) := ⟨h3_⟩
 have n4_ : Aside0 (w.heap.size ≤ gb163) := ⟨h4_⟩
 have n5_ : Aside0 (w.heap.size ≤ gb163) := ⟨h5_⟩
 have n6_ : Aside0 (gb145 ≠ gb163) := ⟨h6_⟩
 have n7_ : Aside0 (gb163 ≠ gb145) := ⟨h7_⟩
 have n8_ : Aside0 (gb146 ≠ gb163) := ⟨h8_⟩
 have n9_ : Aside0 (gb163 ≠ gb146) := ⟨h9_⟩
 have n10_ : Aside0 (Below w.heap.size w w14) := ⟨h10_⟩
 clear BK145
 clear BK146
 clear HB
 clear h0_ h1_ h2_ h3_ h4_ h5_ h6_ h7_ h8_ h9_ h10_
 have HO149 := n0_
 have BK145 := n1_
 have BK146 := n2_
 have BK163 := n3_
 have GW163 := n4_
 have GE163 := n5_
 have NB145_163 := n6_
 have NB163_145 := n7_
 have NB146_163 := n8_
 have NB163_146 := n9_
 have HB := n10_
 clear n0_ n1_ n2_ n3_ n4_ n5_ n6_ n7_ n8_ n9_ n10_
 have hHeld : w14.cell? ⟨gb145, 0, none⟩ = some (.int .i64 a0_0) ∧ w14.cell? ⟨gb145, 1, none⟩ = some (.int .i64 a0_1) ∧ w14.cell? ⟨gb145, 2, none⟩ = some (.int .i64 a0_2) ∧ w14.cell? ⟨gb145, 3, none⟩ = some (.int .i64 a0_3) ∧ w14.cell? ⟨gb145, 4, none⟩ = some (.int .i64 a0_4) ∧ w14.cell? ⟨gb145, 5, none⟩ = some (.int .i64 a0_5) ∧ w14.cell? ⟨gb145, 6, none⟩ = some (.int .i64 a0_6) ∧ w14.cell? ⟨gb145, 7, none⟩ = some (.int .i64 a0_7) ∧ w14.cell? ⟨gb145, 8, none⟩ = some (.int .i64 a0_8) ∧ w14.cell? ⟨gb145, 9, none⟩ = some (.int .i64 a0_9) ∧ w14.cell? ⟨gb145, 10, none⟩ = some (.int .i64 a0_10) ∧ w14.cell? ⟨gb145, 11, none⟩ = some (.int .i64 a0_11) ∧ w14.cell? ⟨gb146, 0, none⟩ = some (.int .i64 a1_0) ∧ w14.cell? ⟨gb146, 1, none⟩ = some (.int .i64 a1_1) ∧ w14.cell? ⟨gb146, 2, none⟩ = some (.int .i64 a1_2) ∧ w14.cell? ⟨gb146, 3, none⟩ = some (.int .i64 a1_3) ∧ w14.cell? ⟨gb146, 4, none⟩ = some (.int .i64 a1_4) := hS_
 refine norm_ (a' := ?_) ?_ ?_
 rotate_left
 ·
  simp only [putAll, Act.put, List.setIfInBounds_toArray, List.set_cons_zero, List.set_cons_succ]
  rfl
 refine one_ (i := 8) (N := none) #[true, true, true, true, true, true, true, true, true, false] rfl rfl (one_of HT_.out (by kernel_rfl)) (by decide) (fun K hK => ?_)
 have hs15 : w14.cell? ⟨gb163, 0, none⟩ = some (.int .i64 0) := (blk_cell BK163.out 0).trans rfl
 have hfs15 := blk_frozen BK163.out 0
 have hns15_0 := NB145_163.out
 have hns15_1 := NB146_163.out
 have hms15_0 := NB163_145.out
 have hms15_1 := NB163_146.out
 have hs16 : w14.cell? ⟨gb163, 1, none⟩ = some (.int .i64 0) := (blk_cell BK163.out 1).trans rfl
 have hfs16 := blk_frozen BK163.out 1
 have hns16_0 := NB145_163.out
 have hns16_1 := NB146_163.out
 have hms16_0 := NB163_145.out
 have hms16_1 := NB163_146.out
 have hs17 : w14.cell? ⟨gb163, 2, none⟩ = some (.int .i64 0) := (blk_cell BK163.out 2).trans rfl
 have hfs17 := blk_frozen BK163.out 2
 have hns17_0 := NB145_163.out
 have hns17_1 := NB146_163.out
 have hms17_0 := NB163_145.out
 have hms17_1 := NB163_146.out
 have hs18 : w14.cell? ⟨gb163, 3, none⟩ = some (.int .i64 0) := (blk_cell BK163.out 3).trans rfl
 have hfs18 := blk_frozen BK163.out 3
 have hns18_0 := NB145_163.out
 have hns18_1 := NB146_163.out
 have hms18_0 := NB163_145.out
 have hms18_1 := NB163_146.out
 have hs19 : w14.cell? ⟨gb163, 4, none⟩ = some (.int .i64 0) := (blk_cell BK163.out 4).trans rfl
 have hfs19 := blk_frozen BK163.out 4
 have hns19_0 := NB145_163.out
 have hns19_1 := NB146_163.out
 have hms19_0 := NB163_145.out
 have hms19_1 := NB163_146.out
 have hs20 : w14.cell? ⟨gb163, 5, none⟩ = some (.int .i64 0) := (blk_cell BK163.out 5).trans rfl
 have hfs20 := blk_frozen BK163.out 5
 have hns20_0 := NB145_163.out
 have hns20_1 := NB146_163.out
 have hms20_0 := NB163_145.out
 have hms20_1 := NB163_146.out
 have hs21 : w14.cell? ⟨gb163, 6, none⟩ = some (.int .i64 0) := (blk_cell BK163.out 6).trans rfl
 have hfs21 := blk_frozen BK163.out 6
 have hns21_0 := NB145_163.out
 have hns21_1 := NB146_163.out
 have hms21_0 := NB163_145.out
 have hms21_1 := NB163_146.out
 have hs22 : w14.cell? ⟨gb163, 7, none⟩ = some (.int .i64 0) := (blk_cell BK163.out 7).trans rfl
 have hfs22 := blk_frozen BK163.out 7
 have hns22_0 := NB145_163.out
 have hns22_1 := NB146_163.out
 have hms22_0 := NB163_145.out
 have hms22_1 := NB163_146.out
 have hs23 : w14.cell? ⟨gb163, 8, none⟩ = some (.int .i64 0) := (blk_cell BK163.out 8).trans rfl
 have hfs23 := blk_frozen BK163.out 8
 have hns23_0 := NB145_163.out
 have hns23_1 := NB146_163.out
 have hms23_0 := NB163_145.out
 have hms23_1 := NB163_146.out
 have hs24 : w14.cell? ⟨gb163, 9, none⟩ = some (.int .i64 0) := (blk_cell BK163.out 9).trans rfl
 have hfs24 := blk_frozen BK163.out 9
 have hns24_0 := NB145_163.out
 have hns24_1 := NB146_163.out
 have hms24_0 := NB163_145.out
 have hms24_1 := NB163_146.out
 have hs25 : w14.cell? ⟨gb163, 10, none⟩ = some (.int .i64 0) := (blk_cell BK163.out 10).trans rfl
 have hfs25 := blk_frozen BK163.out 10
 have hns25_0 := NB145_163.out
 have hns25_1 := NB146_163.out
 have hms25_0 := NB163_145.out
 have hms25_1 := NB163_146.out
 have hs26 : w14.cell? ⟨gb163, 11, none⟩ = some (.int .i64 0) := (blk_cell BK163.out 11).trans rfl
 have hfs26 := blk_frozen BK163.out 11
 have hns26_0 := NB145_163.out
 have hns26_1 := NB146_163.out
 have hms26_0 := NB163_145.out
 have hms26_1 := NB163_146.out
 refine skip_ (w1 := ?_) (by rfl) rfl ?_ ?_
 rotate_left
 ·
  go_simp
  rfl
 refine hK.out _ _ ⟨((cell_far (p := ⟨gb163, _, none⟩) NB145_163.out _).trans (((cell_far (p := ⟨gb163, _, none⟩) NB145_163.out _).trans (((cell_far (p := ⟨gb163, _, none⟩) NB145_163.out _).trans (((cell_far (p := ⟨gb163, _, none⟩) NB145_163.out _).trans (((cell_far (p := ⟨gb163, _, none⟩) NB145_163.out _).trans (((cell_far (p := ⟨gb163, _, none⟩) NB145_163.out _).trans (((cell_far (p := ⟨gb163, _, none⟩) NB145_163.out _).trans (((cell_far (p := ⟨gb163, _, none⟩) NB145_163.out _).trans (((cell_far (p := ⟨gb163, _, none⟩) NB145_163.out _).trans (((cell_far (p := ⟨gb163, _, none⟩) NB145_163.out _).trans (((cell_far (p := ⟨gb163, _, none⟩) NB145_163.out _).trans (((cell_far (p := ⟨gb163, _, none⟩) NB145_163.out _).trans (hHeld.1)))))))))))))))))))))))), ((cell_far (p := ⟨gb163, _, none⟩) NB145_163.out _).trans (((cell_far (p := ⟨gb163, _, none⟩) NB145_163.out _).trans (((cell_far (p := ⟨gb163, _, none⟩) NB145_163.out _).trans (((cell_far (p := ⟨gb163, _, none⟩) NB145_163.out _).trans (((cell_far (p := ⟨gb163, _, none⟩) NB145_163.out _).trans (((cell_far (p := ⟨gb163, _, none⟩) NB145_163.out _).trans (((cell_far (p := ⟨gb163, _, none⟩) NB145_163.out _).trans (((cell_far (p := ⟨gb163, _, none⟩) NB145_163.out _).trans (((cell_far (p := ⟨gb163, _, none⟩) NB145_163.out _).trans (((cell_far (p := ⟨gb163, _, none⟩) NB145_163.out _).trans (((cell_far (p := ⟨gb163, _, none⟩) NB145_163.out _).trans (((cell_far (p := ⟨gb163, _, none⟩) NB145_163.out _).trans (hHeld.2.1)))))))))))))))))))))))), ((cell_far (p := ⟨gb163, _, none⟩) NB145_163.out _).trans (((cell_far (p := ⟨gb163, _, none⟩) NB145_163.out _).trans (((cell_far (p := ⟨gb163, _, none⟩) NB145_163.out _).trans (((cell_far (p := ⟨gb163, _, none⟩) NB145_163.out _).trans (((cell_far (p := ⟨gb163, _, none⟩) NB145_163.out _).trans (((cell_far (p := ⟨gb163, _, none⟩) NB145_163.out _).trans (((cell_far (p := ⟨gb163, _, none⟩) NB145_163.out _).trans (((cell_far (p := ⟨gb163, _, none⟩) NB145_163.out _).trans (((cell_far (p := ⟨gb163, _, none⟩) NB145_163.out _).trans (((cell_far (p := ⟨gb163, _, none⟩) NB145_163.out _).trans (((cell_far (p := ⟨gb163, _, none⟩) NB145_163.out _).trans (((cell_far (p := ⟨gb163, _, none⟩) NB145_163.out _).trans (hHeld.2.2.1)))))))))))))))))))))))), ((cell_far (p := ⟨gb163, _, none⟩) NB145_163.out _).trans (((cell_far (p := ⟨gb163, _, none⟩) NB145_163.out _).trans (((cell_far (p := ⟨gb163, _, none⟩) NB145_163.out _).trans (((cell_far (p := ⟨gb163, _, none⟩) NB145_163.out _).trans (((cell_far (p := ⟨gb163, _, none⟩) NB145_163.out _).trans (((cell_far (p := ⟨gb163, _, none⟩) NB145_163.out _).trans (((cell_far (p := ⟨gb163, _, none⟩) NB145_163.out _).trans (((cell_far (p := ⟨gb163, _, none⟩) NB145_163.out _).trans (((cell_far (p := ⟨gb163, _, none⟩) NB145_163.out _).trans (((cell_far (p := ⟨gb163, _, none⟩) NB145_163.out _).trans (((cell_far (p := ⟨gb163, _, none⟩) NB145_163.out _).trans (((cell_far (p := ⟨gb163, _, none⟩) NB145_163.out _).trans (hHeld.2.2.2.1)))))))))))))))))))))))), ((cell_far (p := ⟨gb163, _, none⟩) NB145_163.out _).trans (((cell_far (p := ⟨gb163, _, none⟩) NB145_163.out _).trans (((cell_far (p := ⟨gb163, _, none⟩) NB145_163.out _).trans (((cell_far (p := ⟨gb163, _, none⟩) NB145_163.out _).trans (((cell_far (p := ⟨gb163, _, none⟩) NB145_163.out _).trans (((cell_far (p := ⟨gb163, _, none⟩) NB145_163.out _).trans (((cell_far (p := ⟨gb163, _, none⟩) NB145_163.out _).trans (((cell_far (p := ⟨gb163, _, none⟩) NB145_163.out _).trans (((cell_far (p := ⟨gb163, _, none⟩) NB145_163.out _).trans (((cell_far (p := ⟨gb163, _, none⟩) NB145_163.out _).trans (((cell_far (p := ⟨gb163, _, none⟩) NB145_163.out _).trans (((cell_far (p := ⟨gb163, _, none⟩) NB145_163.out _).trans (hHeld.2.2.2.2.1)))))))))))))))))))))))), ((cell_far (p := ⟨gb163, _, none⟩) NB145_163.out _).trans (((cell_far (p := ⟨gb163, _, none⟩) NB145_163.out _).trans (((cell_far (p := ⟨gb163, _, none⟩) NB145_163.out _).trans (((cell_far (p := ⟨gb163, _, none⟩) NB145_163.out _).trans (((cell_far (p := ⟨gb163, _, none⟩) NB145_163.out _).trans (((cell_far (p := ⟨gb163, _, none⟩) NB145_163.out _).trans (((cell_far (p := ⟨gb163, _, none⟩) NB145_163.out _).trans (((cell_far (p := ⟨gb163, _, none⟩) NB145_163.out _).trans (((cell_far (p := ⟨gb163, _, none⟩) NB145_163.out _).trans (((cell_far (p := ⟨gb163, _, none⟩) NB145_163.out _).trans (((cell_far (p := ⟨gb163, _, none⟩) NB145_163.out _).trans (((cell_far (p := ⟨gb163, _, none⟩) NB145_163.out _).trans (hHeld.2.2.2.2.2.1)))))))))))))))))))))))), ((cell_far (p := ⟨gb163, _, none⟩) NB145_163.out _).trans (((cell_far (p := ⟨gb163, _, none⟩) NB145_163.out _).trans (((cell_far (p := ⟨gb163, _, none⟩) NB145_163.out _).trans (((cell_far (p := ⟨gb163, _, none⟩) NB145_163.out _).trans (((cell_far (p := ⟨gb163, _, none⟩) NB145_163.out _).trans (((cell_far (p := ⟨gb163, _, none⟩) NB145_163.out _).trans (((cell_far (p := ⟨gb163, _, none⟩) NB145_163.out _).trans (((cell_far (p := ⟨gb163, _, none⟩) NB145_163.out _).trans (((cell_far (p := ⟨gb163, _, none⟩) NB145_163.out _).trans (((cell_far (p := ⟨gb163, _, none⟩) NB145_163.out _).trans (((cell_far (p := ⟨gb163, _, none⟩) NB145_163.out _).trans (((cell_far (p := ⟨gb163, _, none⟩) NB145_163.out _).trans (hHeld.2.2.2.2.2.2.1)))))))))))))))))))))))), ((cell_far (p := ⟨gb163, _, none⟩) NB145_163.out _).trans (((cell_far (p := ⟨gb163, _, none⟩) NB145_163.out _).trans (((cell_far (p := ⟨gb163, _, none⟩) NB145_163.out _).trans (((cell_far (p := ⟨gb163, _, none⟩) NB145_163.out _).trans (((cell_far (p := ⟨gb163, _, none⟩) NB145_163.out _).trans (((cell_far (p := ⟨gb163, _, none⟩) NB145_163.out _).trans (((cell_far (p := ⟨gb163, _, none⟩) NB145_163.out _).trans (((cell_far (p := ⟨gb163, _, none⟩) NB145_163.out _).trans (((cell_far (p := ⟨gb163, _, none⟩) NB145_163.out _).trans (((cell_far (p := ⟨gb163, _, none⟩) NB145_163.out _).trans (((cell_far (p := ⟨gb163, _, none⟩) NB145_163.out _).trans (((cell_far (p := ⟨gb163, _, none⟩) NB145_163.out _).trans (hHeld.2.2.2.2.2.2.2.1)))))))))))))))))))))))), ((cell_far (p := ⟨gb163, _, none⟩) NB145_163.out _).trans (((cell_far (p := ⟨gb163, _, none⟩) NB145_163.out _).trans (((cell_far (p := ⟨gb163, _, none⟩) NB145_163.out _).trans (((cell_far (p := ⟨gb163, _, none⟩) NB145_163.out _).trans (((cell_far (p := ⟨gb163, _, none⟩) NB145_163.out _).trans (((cell_far (p := ⟨gb163, _, none⟩) NB145_163.out _).trans (((cell_far (p := ⟨gb163, _, none⟩) NB145_163.out _).trans (((cell_far (p := ⟨gb163, _, none⟩) NB145_163.out _).trans (((cell_far (p := ⟨gb163, _, none⟩) NB145_163.out _).trans (((cell_far (p := ⟨gb163, _, none⟩) NB145_163.out _).trans (((cell_far (p := ⟨gb163, _, none⟩) NB145_163.out _).trans (((cell_far (p := ⟨gb163, _, none⟩) NB145_163.out _).trans (hHeld.2.2.2.2.2.2.2.2.1)))))))))))))))))))))))), ((cell_far (p := ⟨gb163, _, none⟩) NB145_163.out _).trans (((cell_far (p := ⟨gb163, _, none⟩) NB145_163.out _).trans (((cell_far (p := ⟨gb163, _, none⟩) NB145_163.out _).trans (((cell_far (p := ⟨gb163, _, none⟩) NB145_163.out _).trans (((cell_far (p := ⟨gb163, _, none⟩) NB145_163.out _).trans (((cell_far (p := ⟨gb163, _, none⟩) NB145_163.out _).trans (((cell_far (p := ⟨gb163, _, none⟩) NB145_163.out _).trans (((cell_far (p := ⟨gb163, _, none⟩) NB145_163.out _).trans (((cell_far (p := ⟨gb163, _, none⟩) NB145_163.out _).trans (((cell_far (p := ⟨gb163, _, none⟩) NB145_163.out _).trans (((cell_far (p := ⟨gb163, _, none⟩) NB145_163.out _).trans (((cell_far (p := ⟨gb163, _, none⟩) NB145_163.out _).trans (hHeld.2.2.2.2.2.2.2.2.2.1)))))))))))))))))))))))), ((cell_far (p := ⟨gb163, _, none⟩) NB145_163.out _).trans (((cell_far (p := ⟨gb163, _, none⟩) NB145_163.out _).trans (((cell_far (p := ⟨gb163, _, none⟩) NB145_163.out _).trans (((cell_far (p := ⟨gb163, _, none⟩) NB145_163.out _).trans (((cell_far (p := ⟨gb163, _, none⟩) NB145_163.out _).trans (((cell_far (p := ⟨gb163, _, none⟩) NB145_163.out _).trans (((cell_far (p := ⟨gb163, _, none⟩) NB145_163.out _).trans (((cell_far (p := ⟨gb163, _, none⟩) NB145_163.out _).trans (((cell_far (p := ⟨gb163, _, none⟩) NB145_163.out _).trans (((cell_far (p := ⟨gb163, _, none⟩) NB145_163.out _).trans (((cell_far (p := ⟨gb163, _, none⟩) NB145_163.out _).trans (((cell_far (p := ⟨gb163, _, none⟩) NB145_163.out _).trans (hHeld.2.2.2.2.2.2.2.2.2.2.1)))))))))))))))))))))))), ((cell_far (p := ⟨gb163, _, none⟩) NB145_163.out _).trans (((cell_far (p := ⟨gb163, _, none⟩) NB145_163.out _).trans (((cell_far (p := ⟨gb163, _, none⟩) NB145_163.out _).trans (((cell_far (p := ⟨gb163, _, none⟩) NB145_163.out _).trans (((cell_far (p := ⟨gb163, _, none⟩) NB145_163.out _).trans (((cell_far (p := ⟨gb163, _, none⟩) NB145_163.out _).trans (((cell_far (p := ⟨gb163, _, none⟩) NB145_163.out _).trans (((cell_far (p := ⟨gb163, _, none⟩) NB145_163.out _).trans (((cell_far (p := ⟨gb163, _, none⟩) NB145_163.out _).trans (((cell_far (p := ⟨gb163, _, none⟩) NB145_163.out _).trans (((cell_far (p := ⟨gb163, _, none⟩) NB145_163.out _).trans (((cell_far (p := ⟨gb163, _, none⟩) NB145_163.out _).trans (hHeld.2.2.2.2.2.2.2.2.2.2.2.1)))))))))))))))))))))))), ((cell_far (p := ⟨gb163, _, none⟩) NB146_163.out _).trans (((cell_far (p := ⟨gb163, _, none⟩) NB146_163.out _).trans (((cell_far (p := ⟨gb163, _, none⟩) NB146_163.out _).trans (((cell_far (p := ⟨gb163, _, none⟩) NB146_163.out _).trans (((cell_far (p := ⟨gb163, _, none⟩) NB146_163.out _).trans (((cell_far (p := ⟨gb163, _, none⟩) NB146_163.out _).trans (((cell_far (p := ⟨gb163, _, none⟩) NB146_163.out _).trans (((cell_far (p := ⟨gb163, _, none⟩) NB146_163.out _).trans (((cell_far (p := ⟨gb163, _, none⟩) NB146_163.out _).trans (((cell_far (p := ⟨gb163, _, none⟩) NB146_163.out _).trans (((cell_far (p := ⟨gb163, _, none⟩) NB146_163.out _).trans (((cell_far (p := ⟨gb163, _, none⟩) NB146_163.out _).trans (hHeld.2.2.2.2.2.2.2.2.2.2.2.2.1)))))))))))))))))))))))), ((cell_far (p := ⟨gb163, _, none⟩) NB146_163.out _).trans (((cell_far (p := ⟨gb163, _, none⟩) NB146_163.out _).trans (((cell_far (p := ⟨gb163, _, none⟩) NB146_163.out _).trans (((cell_far (p := ⟨gb163, _, none⟩) NB146_163.out _).trans (((cell_far (p := ⟨gb163, _, none⟩) NB146_163.out _).trans (((cell_far (p := ⟨gb163, _, none⟩) NB146_163.out _).trans (((cell_far (p := ⟨gb163, _, none⟩) NB146_163.out _).trans (((cell_far (p := ⟨gb163, _, none⟩) NB146_163.out _).trans (((cell_far (p := ⟨gb163, _, none⟩) NB146_163.out _).trans (((cell_far (p := ⟨gb163, _, none⟩) NB146_163.out _).trans (((cell_far (p := ⟨gb163, _, none⟩) NB146_163.out _).trans (((cell_far (p := ⟨gb163, _, none⟩) NB146_163.out _).trans (hHeld.2.2.2.2.2.2.2.2.2.2.2.2.2.1)))))))))))))))))))))))), ((cell_far (p := ⟨gb163, _, none⟩) NB146_163.out _).trans (((cell_far (p := ⟨gb163, _, none⟩) NB146_163.out _).trans (((cell_far (p := ⟨gb163, _, none⟩) NB146_163.out _).trans (((cell_far (p := ⟨gb163, _, none⟩) NB146_163.out _).trans (((cell_far (p := ⟨gb163, _, none⟩) NB146_163.out _).trans (((cell_far (p := ⟨gb163, _, none⟩) NB146_163.out _).trans (((cell_far (p := ⟨gb163, _, none⟩) NB146_163.out _).trans (((cell_far (p := ⟨gb163, _, none⟩) NB146_163.out _).trans (((cell_far (p := ⟨gb163, _, none⟩) NB146_163.out _).trans (((cell_far (p := ⟨gb163, _, none⟩) NB146_163.out _).trans (((cell_far (p := ⟨gb163, _, none⟩) NB146_163.out _).trans (((cell_far (p := ⟨gb163, _, none⟩) NB146_163.out _).trans (hHeld.2.2.2.2.2.2.2.2.2.2.2.2.2.2.1)))))))))))))))))))))))), ((cell_far (p := ⟨gb163, _, none⟩) NB146_163.out _).trans (((cell_far (p := ⟨gb163, _, none⟩) NB146_163.out _).trans (((cell_far (p := ⟨gb163, _, none⟩) NB146_163.out _).trans (((cell_far (p := ⟨gb163, _, none⟩) NB146_163.out _).trans (((cell_far (p := ⟨gb163, _, none⟩) NB146_163.out _).trans (((cell_far (p := ⟨gb163, _, none⟩) NB146_163.out _).trans (((cell_far (p := ⟨gb163, _, none⟩) NB146_163.out _).trans (((cell_far (p := ⟨gb163, _, none⟩) NB146_163.out _).trans (((cell_far (p := ⟨gb163, _, none⟩) NB146_163.out _).trans (((cell_far (p := ⟨gb163, _, none⟩) NB146_163.out _).trans (((cell_far (p := ⟨gb163, _, none⟩) NB146_163.out _).trans (((cell_far (p := ⟨gb163, _, none⟩) NB146_163.out _).trans (hHeld.2.2.2.2.2.2.2.2.2.2.2.2.2.2.2.1)))))))))))))))))))))))), ((cell_far (p := ⟨gb163, _, none⟩) NB146_163.out _).trans (((cell_far (p := ⟨gb163, _, none⟩) NB146_163.out _).trans (((cell_far (p := ⟨gb163, _, none⟩) NB146_163.out _).trans (((cell_far (p := ⟨gb163, _, none⟩) NB146_163.out _).trans (((cell_far (p := ⟨gb163, _, none⟩) NB146_163.out _).trans (((cell_far (p := ⟨gb163, _, none⟩) NB146_163.out _).trans (((cell_far (p := ⟨gb163, _, none⟩) NB146_163.out _).trans (((cell_far (p := ⟨gb163, _, none⟩) NB146_163.out _).trans (((cell_far (p := ⟨gb163, _, none⟩) NB146_163.out _).trans (((cell_far (p := ⟨gb163, _, none⟩) NB146_163.out _).trans (((cell_far (p := ⟨gb163, _, none⟩) NB146_163.out _).trans (((cell_far (p := ⟨gb163, _, none⟩) NB146_163.out _).trans (hHeld.2.2.2.2.2.2.2.2.2.2.2.2.2.2.2.2))))))))))))))))))))))))⟩ (fun hHeld => ?_)
 clear hK K
 refine pure_ (i := 9) (N := some 8) (v := ?_) (a' := ?_) #[true, true, true, true, true, true, true, true, true, true] rfl rfl (any_of HT_.out (by kernel_rfl)) (fun _ _ _ h => h) (Or.inl ⟨by rfl, ?_⟩) ?_ ?_
 rotate_left
 ·
  intro w'
  go_simp
  with_reducible rfl
 rotate_left
 ·
  simp only [Act.put, List.setIfInBounds_toArray, List.set_cons_zero, List.set_cons_succ, i64_w, i32_w]
  rfl
 refine done_ (done_of HT_.out (by kernel_rfl)) ?_
 go_upto_region 2 with (fail)
 go_cut [34] (fun v34 wc => ∃ (kq : Nat) (x34_5 : Bool), v34 = .bool x34_5 ∧ Aside0 (arrearslaw9_posted.j0 kq x34_5 a0_0 a0_1 a0_2 a0_3 a0_4 a0_5 a0_6 a0_7 a0_8 a0_9 a0_10 a0_11 a1_0 a1_1 a1_2 a1_3 a1_4 t150 t151 t152 t153 t154 t155 t156 t157 t158 t159 t160 t161 = some r) ∧ Aside0 (kq ≤ k) ∧ Aside0 (wc.heap[gb145]? = some (.cells #[.int .i64 a0_0, .int .i64 a0_1, .int .i64 a0_2, .int .i64 a0_3, .int .i64 a0_4, .int .i64 a0_5, .int .i64 a0_6, .int .i64 a0_7, .int .i64 a0_8, .int .i64 a0_9, .int .i64 a0_10, .int .i64 a0_11] 43 (0, 0))) ∧ Aside0 (wc.heap[gb146]? = some (.cells #[.int .i64 a1_0, .int .i64 a1_1, .int .i64 a1_2, .int .i64 a1_3, .int .i64 a1_4] 28 (0, 0))) ∧ Aside0 (wc.heap[gb163]? = some (.cells #[.int .i64 t150, .int .i64 t151, .int .i64 t152, .int .i64 t153, .int .i64 t154, .int .i64 t155, .int .i64 t156, .int .i64 t157, .int .i64 t158, .int .i64 t159, .int .i64 t160, .int .i64 t161] 43 (0, 0))) ∧ Aside0 (Below w.heap.size w wc))
 case first =>
  have H := HC6.out
  clear HC6
  by_cases c27 : t162 = 0
  ·
   rw [if_pos c27] at H
   have c27b0 : (t162 == 0) = true := beq_iff_eq.mpr c27
   have c27b1 : (t162 != 0) = false := bne_eq_false_iff_eq.mpr c27
   clear c27
   (first | rw [c27b0] | (simp only [i64_w, i32_w]; rw [c27b0]) | skip)
   have H' := Aside0.mk H
   clear H
   have hnb28 := NB163_145.out
   have hnc28 := NB145_163.out
   have hnb29 := NB163_146.out
   have hnc29 := NB146_163.out
   have hcz30_0 : w14.cell? ⟨gb163, 0, none⟩ = some (.int .i64 0) := (blk_cell BK163.out 0).trans rfl
   have hcz30_1 : w14.cell? ⟨gb163, 1, none⟩ = some (.int .i64 0) := (blk_cell BK163.out 1).trans rfl
   have hcz30_2 : w14.cell? ⟨gb163, 2, none⟩ = some (.int .i64 0) := (blk_cell BK163.out 2).trans rfl
   have hcz30_3 : w14.cell? ⟨gb163, 3, none⟩ = some (.int .i64 0) := (blk_cell BK163.out 3).trans rfl
   have hcz30_4 : w14.cell? ⟨gb163, 4, none⟩ = some (.int .i64 0) := (blk_cell BK163.out 4).trans rfl
   have hcz30_5 : w14.cell? ⟨gb163, 5, none⟩ = some (.int .i64 0) := (blk_cell BK163.out 5).trans rfl
   have hcz30_6 : w14.cell? ⟨gb163, 6, none⟩ = some (.int .i64 0) := (blk_cell BK163.out 6).trans rfl
   have hcz30_7 : w14.cell? ⟨gb163, 7, none⟩ = some (.int .i64 0) := (blk_cell BK163.out 7).trans rfl
   have hcz30_8 : w14.cell? ⟨gb163, 8, none⟩ = some (.int .i64 0) := (blk_cell BK163.out 8).trans rfl
   have hcz30_9 : w14.cell? ⟨gb163, 9, none⟩ = some (.int .i64 0) := (blk_cell BK163.out 9).trans rfl
   have hcz30_10 : w14.cell? ⟨gb163, 10, none⟩ = some (.int .i64 0) := (blk_cell BK163.out 10).trans rfl
   have hcz30_11 : w14.cell? ⟨gb163, 11, none⟩ = some (.int .i64 0) := (blk_cell BK163.out 11).trans rfl
   have hfz30_0 := blk_frozen BK163.out 0
   have hfz30_1 := blk_frozen BK163.out 1
   have hfz30_2 := blk_frozen BK163.out 2
   have hfz30_3 := blk_frozen BK163.out 3
   have hfz30_4 := blk_frozen BK163.out 4
   have hfz30_5 := blk_frozen BK163.out 5
   have hfz30_6 := blk_frozen BK163.out 6
   have hfz30_7 := blk_frozen BK163.out 7
   have hfz30_8 := blk_frozen BK163.out 8
   have hfz30_9 := blk_frozen BK163.out 9
   have hfz30_10 := blk_frozen BK163.out 10
   have hfz30_11 := blk_frozen BK163.out 11
   have hnb31 := NB145_146.out
   have hnc31 := NB146_145.out
   have hcz32_0 : w14.cell? ⟨gb145, 0, none⟩ = some (.int .i64 a0_0) := (blk_cell BK145.out 0).trans rfl
   have hcz32_1 : w14.cell? ⟨gb145, 1, none⟩ = some (.int .i64 a0_1) := (blk_cell BK145.out 1).trans rfl
   have hcz32_2 : w14.cell? ⟨gb145, 2, none⟩ = some (.int .i64 a0_2) := (blk_cell BK145.out 2).trans rfl
   have hcz32_3 : w14.cell? ⟨gb145, 3, none⟩ = some (.int .i64 a0_3) := (blk_cell BK145.out 3).trans rfl
   have hcz32_4 : w14.cell? ⟨gb145, 4, none⟩ = some (.int .i64 a0_4) := (blk_cell BK145.out 4).trans rfl
   have hcz32_5 : w14.cell? ⟨gb145, 5, none⟩ = some (.int .i64 a0_5) := (blk_cell BK145.out 5).trans rfl
   have hcz32_6 : w14.cell? ⟨gb145, 6, none⟩ = some (.int .i64 a0_6) := (blk_cell BK145.out 6).trans rfl
   have hcz32_7 : w14.cell? ⟨gb145, 7, none⟩ = some (.int .i64 a0_7) := (blk_cell BK145.out 7).trans rfl
   have hcz32_8 : w14.cell? ⟨gb145, 8, none⟩ = some (.int .i64 a0_8) := (blk_cell BK145.out 8).trans rfl
   have hcz32_9 : w14.cell? ⟨gb145, 9, none⟩ = some (.int .i64 a0_9) := (blk_cell BK145.out 9).trans rfl
   have hcz32_10 : w14.cell? ⟨gb145, 10, none⟩ = some (.int .i64 a0_10) := (blk_cell BK145.out 10).trans rfl
   have hcz32_11 : w14.cell? ⟨gb145, 11, none⟩ = some (.int .i64 a0_11) := (blk_cell BK145.out 11).trans rfl
   have hfz32_0 := blk_frozen BK145.out 0
   have hfz32_1 := blk_frozen BK145.out 1
   have hfz32_2 := blk_frozen BK145.out 2
   have hfz32_3 := blk_frozen BK145.out 3
   have hfz32_4 := blk_frozen BK145.out 4
   have hfz32_5 := blk_frozen BK145.out 5
   have hfz32_6 := blk_frozen BK145.out 6
   have hfz32_7 := blk_frozen BK145.out 7
   have hfz32_8 := blk_frozen BK145.out 8
   have hfz32_9 := blk_frozen BK145.out 9
   have hfz32_10 := blk_frozen BK145.out 10
   have hfz32_11 := blk_frozen BK145.out 11
   go_wp2
   go_meet
   case rel => exact ⟨_, (((wrap64 (t150 - a0_0)) != a2)), (by first | rfl | (simp; done) | (simp [*]; done)), H', ⟨by first | omega | exact Nat.le_refl _⟩, ⟨by (with_reducible repeat (first | refine blk_drewN ?_ _ | refine blk_drew ?_ | refine blk_alloc ?_ _)); refine blk_far ?_ NB145_163.out _; (with_reducible repeat (first | refine blk_drewN ?_ _ | refine blk_drew ?_ | refine blk_alloc ?_ _)); refine blk_far ?_ NB145_163.out _; (with_reducible repeat (first | refine blk_drewN ?_ _ | refine blk_drew ?_ | refine blk_alloc ?_ _)); refine blk_far ?_ NB145_163.out _; (with_reducible repeat (first | refine blk_drewN ?_ _ | refine blk_drew ?_ | refine blk_alloc ?_ _)); refine blk_far ?_ NB145_163.out _; (with_reducible repeat (first | refine blk_drewN ?_ _ | refine blk_drew ?_ | refine blk_alloc ?_ _)); refine blk_far ?_ NB145_163.out _; (with_reducible repeat (first | refine blk_drewN ?_ _ | refine blk_drew ?_ | refine blk_alloc ?_ _)); refine blk_far ?_ NB145_163.out _; (with_reducible repeat (first | refine blk_drewN ?_ _ | refine blk_drew ?_ | refine blk_alloc ?_ _)); refine blk_far ?_ NB145_163.out _; (with_reducible repeat (first | refine blk_drewN ?_ _ | refine blk_drew ?_ | refine blk_alloc ?_ _)); refine blk_far ?_ NB145_163.out _; (with_reducible repeat (first | refine blk_drewN ?_ _ | refine blk_drew ?_ | refine blk_alloc ?_ _)); refine blk_far ?_ NB145_163.out _; (with_reducible repeat (first | refine blk_drewN ?_ _ | refine blk_drew ?_ | refine blk_alloc ?_ _)); refine blk_far ?_ NB145_163.out _; (with_reducible repeat (first | refine blk_drewN ?_ _ | refine blk_drew ?_ | refine blk_alloc ?_ _)); refine blk_far ?_ NB145_163.out _; (with_reducible repeat (first | refine blk_drewN ?_ _ | refine blk_drew ?_ | refine blk_alloc ?_ _)); refine blk_far ?_ NB145_163.out _; (with_reducible repeat (first | refine blk_drewN ?_ _ | refine blk_drew ?_ | refine blk_alloc ?_ _)); exact BK145.out⟩, ⟨by (with_reducible repeat (first | refine blk_drewN ?_ _ | refine blk_drew ?_ | refine blk_alloc ?_ _)); refine blk_far ?_ NB146_163.out _; (with_reducible repeat (first | refine blk_drewN ?_ _ | refine blk_drew ?_ | refine blk_alloc ?_ _)); refine blk_far ?_ NB146_163.out _; (with_reducible repeat (first | refine blk_drewN ?_ _ | refine blk_drew ?_ | refine blk_alloc ?_ _)); refine blk_far ?_ NB146_163.out _; (with_reducible repeat (first | refine blk_drewN ?_ _ | refine blk_drew ?_ | refine blk_alloc ?_ _)); refine blk_far ?_ NB146_163.out _; (with_reducible repeat (first | refine blk_drewN ?_ _ | refine blk_drew ?_ | refine blk_alloc ?_ _)); refine blk_far ?_ NB146_163.out _; (with_reducible repeat (first | refine blk_drewN ?_ _ | refine blk_drew ?_ | refine blk_alloc ?_ _)); refine blk_far ?_ NB146_163.out _; (with_reducible repeat (first | refine blk_drewN ?_ _ | refine blk_drew ?_ | refine blk_alloc ?_ _)); refine blk_far ?_ NB146_163.out _; (with_reducible repeat (first | refine blk_drewN ?_ _ | refine blk_drew ?_ | refine blk_alloc ?_ _)); refine blk_far ?_ NB146_163.out _; (with_reducible repeat (first | refine blk_drewN ?_ _ | refine blk_drew ?_ | refine blk_alloc ?_ _)); refine blk_far ?_ NB146_163.out _; (with_reducible repeat (first | refine blk_drewN ?_ _ | refine blk_drew ?_ | refine blk_alloc ?_ _)); refine blk_far ?_ NB146_163.out _; (with_reducible repeat (first | refine blk_drewN ?_ _ | refine blk_drew ?_ | refine blk_alloc ?_ _)); refine blk_far ?_ NB146_163.out _; (with_reducible repeat (first | refine blk_drewN ?_ _ | refine blk_drew ?_ | refine blk_alloc ?_ _)); refine blk_far ?_ NB146_163.out _; (with_reducible repeat (first | refine blk_drewN ?_ _ | refine blk_drew ?_ | refine blk_alloc ?_ _)); exact BK146.out⟩, ⟨by (with_reducible repeat (first | refine blk_drewN ?_ _ | refine blk_drew ?_ | refine blk_alloc ?_ _)); refine blk_put (cs := #[.int .i64 t150, .int .i64 t151, .int .i64 t152, .int .i64 t153, .int .i64 t154, .int .i64 t155, .int .i64 t156, .int .i64 t157, .int .i64 t158, .int .i64 t159, .int .i64 t160, .int .i64 0]) ?_ 11 _ rfl; (with_reducible repeat (first | refine blk_drewN ?_ _ | refine blk_drew ?_ | refine blk_alloc ?_ _)); refine blk_put (cs := #[.int .i64 t150, .int .i64 t151, .int .i64 t152, .int .i64 t153, .int .i64 t154, .int .i64 t155, .int .i64 t156, .int .i64 t157, .int .i64 t158, .int .i64 t159, .int .i64 0, .int .i64 0]) ?_ 10 _ rfl; (with_reducible repeat (first | refine blk_drewN ?_ _ | refine blk_drew ?_ | refine blk_alloc ?_ _)); refine blk_put (cs := #[.int .i64 t150, .int .i64 t151, .int .i64 t152, .int .i64 t153, .int .i64 t154, .int .i64 t155, .int .i64 t156, .int .i64 t157, .int .i64 t158, .int .i64 0, .int .i64 0, .int .i64 0]) ?_ 9 _ rfl; (with_reducible repeat (first | refine blk_drewN ?_ _ | refine blk_drew ?_ | refine blk_alloc ?_ _)); refine blk_put (cs := #[.int .i64 t150, .int .i64 t151, .int .i64 t152, .int .i64 t153, .int .i64 t154, .int .i64 t155, .int .i64 t156, .int .i64 t157, .int .i64 0, .int .i64 0, .int .i64 0, .int .i64 0]) ?_ 8 _ rfl; (with_reducible repeat (first | refine blk_drewN ?_ _ | refine blk_drew ?_ | refine blk_alloc ?_ _)); refine blk_put (cs := #[.int .i64 t150, .int .i64 t151, .int .i64 t152, .int .i64 t153, .int .i64 t154, .int .i64 t155, .int .i64 t156, .int .i64 0, .int .i64 0, .int .i64 0, .int .i64 0, .int .i64 0]) ?_ 7 _ rfl; (with_reducible repeat (first | refine blk_drewN ?_ _ | refine blk_drew ?_ | refine blk_alloc ?_ _)); refine blk_put (cs := #[.int .i64 t150, .int .i64 t151, .int .i64 t152, .int .i64 t153, .int .i64 t154, .int .i64 t155, .int .i64 0, .int .i64 0, .int .i64 0, .int .i64 0, .int .i64 0, .int .i64 0]) ?_ 6 _ rfl; (with_reducible repeat (first | refine blk_drewN ?_ _ | refine blk_drew ?_ | refine blk_alloc ?_ _)); refine blk_put (cs := #[.int .i64 t150, .int .i64 t151, .int .i64 t152, .int .i64 t153, .int .i64 t154, .int .i64 0, .int .i64 0, .int .i64 0, .int .i64 0, .int .i64 0, .int .i64 0, .int .i64 0]) ?_ 5 _ rfl; (with_reducible repeat (first | refine blk_drewN ?_ _ | refine blk_drew ?_ | refine blk_alloc ?_ _)); refine blk_put (cs := #[.int .i64 t150, .int .i64 t151, .int .i64 t152, .int .i64 t153, .int .i64 0, .int .i64 0, .int .i64 0, .int .i64 0, .int .i64 0, .int .i64 0, .int .i64 0, .int .i64 0]) ?_ 4 _ rfl; (with_reducible repeat (first | refine blk_drewN ?_ _ | refine blk_drew ?_ | refine blk_alloc ?_ _)); refine blk_put (cs := #[.int .i64 t150, .int .i64 t151, .int .i64 t152, .int .i64 0, .int .i64 0, .int .i64 0, .int .i64 0, .int .i64 0, .int .i64 0, .int .i64 0, .int .i64 0, .int .i64 0]) ?_ 3 _ rfl; (with_reducible repeat (first | refine blk_drewN ?_ _ | refine blk_drew ?_ | refine blk_alloc ?_ _)); refine blk_put (cs := #[.int .i64 t150, .int .i64 t151, .int .i64 0, .int .i64 0, .int .i64 0, .int .i64 0, .int .i64 0, .int .i64 0, .int .i64 0, .int .i64 0, .int .i64 0, .int .i64 0]) ?_ 2 _ rfl; (with_reducible repeat (first | refine blk_drewN ?_ _ | refine blk_drew ?_ | refine blk_alloc ?_ _)); refine blk_put (cs := #[.int .i64 t150, .int .i64 0, .int .i64 0, .int .i64 0, .int .i64 0, .int .i64 0, .int .i64 0, .int .i64 0, .int .i64 0, .int .i64 0, .int .i64 0, .int .i64 0]) ?_ 1 _ rfl; (with_reducible repeat (first | refine blk_drewN ?_ _ | refine blk_drew ?_ | refine blk_alloc ?_ _)); refine blk_put (cs := #[.int .i64 0, .int .i64 0, .int .i64 0, .int .i64 0, .int .i64 0, .int .i64 0, .int .i64 0, .int .i64 0, .int .i64 0, .int .i64 0, .int .i64 0, .int .i64 0]) ?_ 0 _ rfl; (with_reducible repeat (first | refine blk_drewN ?_ _ | refine blk_drew ?_ | refine blk_alloc ?_ _)); exact BK163.out⟩, ⟨by repeat (first | (with_reducible first | exact HB.out | apply below_alloc | apply pw_below_drewN | apply below_drew1 | refine below_set ?_ (Aside0.out (by assumption))) | exact HB.out)⟩⟩
  ·
   rw [if_neg c27] at H
   have c27b0 : (t162 == 0) = false := beq_eq_false_iff_ne.mpr c27
   have c27b1 : (t162 != 0) = true := bne_iff_ne.mpr c27
   (first | rw [c27b0] | (simp only [i64_w, i32_w]; rw [c27b0]) | skip)
   have H' := Aside0.mk H
   clear H
   go_wp2
   go_meet
   case rel => exact ⟨_, (true), (by first | rfl | (simp; done) | (simp [*]; done)), H', ⟨by first | omega | exact Nat.le_refl _⟩, ⟨by (with_reducible repeat (first | refine blk_drewN ?_ _ | refine blk_drew ?_ | refine blk_alloc ?_ _)); refine blk_far ?_ NB145_163.out _; (with_reducible repeat (first | refine blk_drewN ?_ _ | refine blk_drew ?_ | refine blk_alloc ?_ _)); refine blk_far ?_ NB145_163.out _; (with_reducible repeat (first | refine blk_drewN ?_ _ | refine blk_drew ?_ | refine blk_alloc ?_ _)); refine blk_far ?_ NB145_163.out _; (with_reducible repeat (first | refine blk_drewN ?_ _ | refine blk_drew ?_ | refine blk_alloc ?_ _)); refine blk_far ?_ NB145_163.out _; (with_reducible repeat (first | refine blk_drewN ?_ _ | refine blk_drew ?_ | refine blk_alloc ?_ _)); refine blk_far ?_ NB145_163.out _; (with_reducible repeat (first | refine blk_drewN ?_ _ | refine blk_drew ?_ | refine blk_alloc ?_ _)); refine blk_far ?_ NB145_163.out _; (with_reducible repeat (first | refine blk_drewN ?_ _ | refine blk_drew ?_ | refine blk_alloc ?_ _)); refine blk_far ?_ NB145_163.out _; (with_reducible repeat (first | refine blk_drewN ?_ _ | refine blk_drew ?_ | refine blk_alloc ?_ _)); refine blk_far ?_ NB145_163.out _; (with_reducible repeat (first | refine blk_drewN ?_ _ | refine blk_drew ?_ | refine blk_alloc ?_ _)); refine blk_far ?_ NB145_163.out _; (with_reducible repeat (first | refine blk_drewN ?_ _ | refine blk_drew ?_ | refine blk_alloc ?_ _)); refine blk_far ?_ NB145_163.out _; (with_reducible repeat (first | refine blk_drewN ?_ _ | refine blk_drew ?_ | refine blk_alloc ?_ _)); refine blk_far ?_ NB145_163.out _; (with_reducible repeat (first | refine blk_drewN ?_ _ | refine blk_drew ?_ | refine blk_alloc ?_ _)); refine blk_far ?_ NB145_163.out _; (with_reducible repeat (first | refine blk_drewN ?_ _ | refine blk_drew ?_ | refine blk_alloc ?_ _)); exact BK145.out⟩, ⟨by (with_reducible repeat (first | refine blk_drewN ?_ _ | refine blk_drew ?_ | refine blk_alloc ?_ _)); refine blk_far ?_ NB146_163.out _; (with_reducible repeat (first | refine blk_drewN ?_ _ | refine blk_drew ?_ | refine blk_alloc ?_ _)); refine blk_far ?_ NB146_163.out _; (with_reducible repeat (first | refine blk_drewN ?_ _ | refine blk_drew ?_ | refine blk_alloc ?_ _)); refine blk_far ?_ NB146_163.out _; (with_reducible repeat (first | refine blk_drewN ?_ _ | refine blk_drew ?_ | refine blk_alloc ?_ _)); refine blk_far ?_ NB146_163.out _; (with_reducible repeat (first | refine blk_drewN ?_ _ | refine blk_drew ?_ | refine blk_alloc ?_ _)); refine blk_far ?_ NB146_163.out _; (with_reducible repeat (first | refine blk_drewN ?_ _ | refine blk_drew ?_ | refine blk_alloc ?_ _)); refine blk_far ?_ NB146_163.out _; (with_reducible repeat (first | refine blk_drewN ?_ _ | refine blk_drew ?_ | refine blk_alloc ?_ _)); refine blk_far ?_ NB146_163.out _; (with_reducible repeat (first | refine blk_drewN ?_ _ | refine blk_drew ?_ | refine blk_alloc ?_ _)); refine blk_far ?_ NB146_163.out _; (with_reducible repeat (first | refine blk_drewN ?_ _ | refine blk_drew ?_ | refine blk_alloc ?_ _)); refine blk_far ?_ NB146_163.out _; (with_reducible repeat (first | refine blk_drewN ?_ _ | refine blk_drew ?_ | refine blk_alloc ?_ _)); refine blk_far ?_ NB146_163.out _; (with_reducible repeat (first | refine blk_drewN ?_ _ | refine blk_drew ?_ | refine blk_alloc ?_ _)); refine blk_far ?_ NB146_163.out _; (with_reducible repeat (first | refine blk_drewN ?_ _ | refine blk_drew ?_ | refine blk_alloc ?_ _)); refine blk_far ?_ NB146_163.out _; (with_reducible repeat (first | refine blk_drewN ?_ _ | refine blk_drew ?_ | refine blk_alloc ?_ _)); exact BK146.out⟩, ⟨by (with_reducible repeat (first | refine blk_drewN ?_ _ | refine blk_drew ?_ | refine blk_alloc ?_ _)); refine blk_put (cs := #[.int .i64 t150, .int .i64 t151, .int .i64 t152, .int .i64 t153, .int .i64 t154, .int .i64 t155, .int .i64 t156, .int .i64 t157, .int .i64 t158, .int .i64 t159, .int .i64 t160, .int .i64 0]) ?_ 11 _ rfl; (with_reducible repeat (first | refine blk_drewN ?_ _ | refine blk_drew ?_ | refine blk_alloc ?_ _)); refine blk_put (cs := #[.int .i64 t150, .int .i64 t151, .int .i64 t152, .int .i64 t153, .int .i64 t154, .int .i64 t155, .int .i64 t156, .int .i64 t157, .int .i64 t158, .int .i64 t159, .int .i64 0, .int .i64 0]) ?_ 10 _ rfl; (with_reducible repeat (first | refine blk_drewN ?_ _ | refine blk_drew ?_ | refine blk_alloc ?_ _)); refine blk_put (cs := #[.int .i64 t150, .int .i64 t151, .int .i64 t152, .int .i64 t153, .int .i64 t154, .int .i64 t155, .int .i64 t156, .int .i64 t157, .int .i64 t158, .int .i64 0, .int .i64 0, .int .i64 0]) ?_ 9 _ rfl; (with_reducible repeat (first | refine blk_drewN ?_ _ | refine blk_drew ?_ | refine blk_alloc ?_ _)); refine blk_put (cs := #[.int .i64 t150, .int .i64 t151, .int .i64 t152, .int .i64 t153, .int .i64 t154, .int .i64 t155, .int .i64 t156, .int .i64 t157, .int .i64 0, .int .i64 0, .int .i64 0, .int .i64 0]) ?_ 8 _ rfl; (with_reducible repeat (first | refine blk_drewN ?_ _ | refine blk_drew ?_ | refine blk_alloc ?_ _)); refine blk_put (cs := #[.int .i64 t150, .int .i64 t151, .int .i64 t152, .int .i64 t153, .int .i64 t154, .int .i64 t155, .int .i64 t156, .int .i64 0, .int .i64 0, .int .i64 0, .int .i64 0, .int .i64 0]) ?_ 7 _ rfl; (with_reducible repeat (first | refine blk_drewN ?_ _ | refine blk_drew ?_ | refine blk_alloc ?_ _)); refine blk_put (cs := #[.int .i64 t150, .int .i64 t151, .int .i64 t152, .int .i64 t153, .int .i64 t154, .int .i64 t155, .int .i64 0, .int .i64 0, .int .i64 0, .int .i64 0, .int .i64 0, .int .i64 0]) ?_ 6 _ rfl; (with_reducible repeat (first | refine blk_drewN ?_ _ | refine blk_drew ?_ | refine blk_alloc ?_ _)); refine blk_put (cs := #[.int .i64 t150, .int .i64 t151, .int .i64 t152, .int .i64 t153, .int .i64 t154, .int .i64 0, .int .i64 0, .int .i64 0, .int .i64 0, .int .i64 0, .int .i64 0, .int .i64 0]) ?_ 5 _ rfl; (with_reducible repeat (first | refine blk_drewN ?_ _ | refine blk_drew ?_ | refine blk_alloc ?_ _)); refine blk_put (cs := #[.int .i64 t150, .int .i64 t151, .int .i64 t152, .int .i64 t153, .int .i64 0, .int .i64 0, .int .i64 0, .int .i64 0, .int .i64 0, .int .i64 0, .int .i64 0, .int .i64 0]) ?_ 4 _ rfl; (with_reducible repeat (first | refine blk_drewN ?_ _ | refine blk_drew ?_ | refine blk_alloc ?_ _)); refine blk_put (cs := #[.int .i64 t150, .int .i64 t151, .int .i64 t152, .int .i64 0, .int .i64 0, .int .i64 0, .int .i64 0, .int .i64 0, .int .i64 0, .int .i64 0, .int .i64 0, .int .i64 0]) ?_ 3 _ rfl; (with_reducible repeat (first | refine blk_drewN ?_ _ | refine blk_drew ?_ | refine blk_alloc ?_ _)); refine blk_put (cs := #[.int .i64 t150, .int .i64 t151, .int .i64 0, .int .i64 0, .int .i64 0, .int .i64 0, .int .i64 0, .int .i64 0, .int .i64 0, .int .i64 0, .int .i64 0, .int .i64 0]) ?_ 2 _ rfl; (with_reducible repeat (first | refine blk_drewN ?_ _ | refine blk_drew ?_ | refine blk_alloc ?_ _)); refine blk_put (cs := #[.int .i64 t150, .int .i64 0, .int .i64 0, .int .i64 0, .int .i64 0, .int .i64 0, .int .i64 0, .int .i64 0, .int .i64 0, .int .i64 0, .int .i64 0, .int .i64 0]) ?_ 1 _ rfl; (with_reducible repeat (first | refine blk_drewN ?_ _ | refine blk_drew ?_ | refine blk_alloc ?_ _)); refine blk_put (cs := #[.int .i64 0, .int .i64 0, .int .i64 0, .int .i64 0, .int .i64 0, .int .i64 0, .int .i64 0, .int .i64 0, .int .i64 0, .int .i64 0, .int .i64 0, .int .i64 0]) ?_ 0 _ rfl; (with_reducible repeat (first | refine blk_drewN ?_ _ | refine blk_drew ?_ | refine blk_alloc ?_ _)); exact BK163.out⟩, ⟨by repeat (first | (with_reducible first | exact HB.out | apply below_alloc | apply pw_below_drewN | apply below_drew1 | refine below_set ?_ (Aside0.out (by assumption))) | exact HB.out)⟩⟩
 case rest =>
  clear HC6
  (try clear c1); (try clear c2); (try clear p2); (try clear c3); (try clear p6); (try clear c15); (try clear c20); (try clear c21); (try clear c27); (try clear c27b0); (try clear c27b1); (try clear c28); (try clear c29); (try clear c31); (try clear hcz30_0 hcz30_1 hcz30_10 hcz30_11 hcz30_2 hcz30_3 hcz30_4 hcz30_5 hcz30_6 hcz30_7 hcz30_8 hcz30_9 hfz30_0 hfz30_1 hfz30_10 hfz30_11 hfz30_2 hfz30_3 hfz30_4 hfz30_5 hfz30_6 hfz30_7 hfz30_8 hfz30_9); (try clear hcz32_0 hcz32_1 hcz32_10 hcz32_11 hcz32_2 hcz32_3 hcz32_4 hcz32_5 hcz32_6 hcz32_7 hcz32_8 hcz32_9 hfz32_0 hfz32_1 hfz32_10 hfz32_11 hfz32_2 hfz32_3 hfz32_4 hfz32_5 hfz32_6 hfz32_7 hfz32_8 hfz32_9)
  obtain ⟨kq, x34_5, rfl, HA, HJ5, BK145, BK146, BK163, HB⟩ := hcut
  cases kq with
  | zero => exact absurd HA.out (by simp [arrearslaw9_posted.j0])
  | succ kj5 =>
   have H := HA.out
   clear HA
   simp only [arrearslaw9_posted.j0] at H
   by_cases c33 : x34_5 = true
   ·
    subst c33
    have H1 : (none) = some r := by rw [if_pos rfl] at H; exact H
    clear H
    have H := H1
    clear H1
    exact absurd H (by simp)
   ·
    replace c33 := Bool.eq_false_iff.mpr c33
    subst c33
    have H1 : (if (wrap64 (a0_3 - t153)) = a1_0 then (if (wrap64 (a0_2 - t152)) = a1_1 then (arrearslaw9_posted.j1 kj5 ((wrap64 (a0_1 - t151)) != a1_2) a0_0 a0_1 a0_2 a0_3 a0_4 a0_5 a0_6 a0_7 a0_8 a0_9 a0_10 a0_11 a1_0 a1_1 a1_2 a1_3 a1_4 t150 t151 t152 t153 t154 t155 t156 t157 t158 t159 t160 t161) else (arrearslaw9_posted.j1 kj5 true a0_0 a0_1 a0_2 a0_3 a0_4 a0_5 a0_6 a0_7 a0_8 a0_9 a0_10 a0_11 a1_0 a1_1 a1_2 a1_3 a1_4 t150 t151 t152 t153 t154 t155 t156 t157 t158 t159 t160 t161)) else (arrearslaw9_posted.j1 kj5 true a0_0 a0_1 a0_2 a0_3 a0_4 a0_5 a0_6 a0_7 a0_8 a0_9 a0_10 a0_11 a1_0 a1_1 a1_2 a1_3 a1_4 t150 t151 t152 t153 t154 t155 t156 t157 t158 t159 t160 t161)) = some r := by rw [if_neg (show ¬ (false = true) by decide)] at H; exact H
    clear H
    have H := H1
    clear H1
    have HC34 := Aside0.mk H
    clear H
    go_upto_region 4 with (fail)
    go_cut [68] (fun v68 wc => ∃ (kq : Nat) (x68_33 : Bool), v68 = .bool x68_33 ∧ Aside0 (arrearslaw9_posted.j1 kq x68_33 a0_0 a0_1 a0_2 a0_3 a0_4 a0_5 a0_6 a0_7 a0_8 a0_9 a0_10 a0_11 a1_0 a1_1 a1_2 a1_3 a1_4 t150 t151 t152 t153 t154 t155 t156 t157 t158 t159 t160 t161 = some r) ∧ Aside0 (kq ≤ kj5) ∧ Aside0 (wc.heap[gb145]? = some (.cells #[.int .i64 a0_0, .int .i64 a0_1, .int .i64 a0_2, .int .i64 a0_3, .int .i64 a0_4, .int .i64 a0_5, .int .i64 a0_6, .int .i64 a0_7, .int .i64 a0_8, .int .i64 a0_9, .int .i64 a0_10, .int .i64 a0_11] 43 (0, 0))) ∧ Aside0 (wc.heap[gb146]? = some (.cells #[.int .i64 a1_0, .int .i64 a1_1, .int .i64 a1_2, .int .i64 a1_3, .int .i64 a1_4] 28 (0, 0))) ∧ Aside0 (wc.heap[gb163]? = some (.cells #[.int .i64 t150, .int .i64 t151, .int .i64 t152, .int .i64 t153, .int .i64 t154, .int .i64 t155, .int .i64 t156, .int .i64 t157, .int .i64 t158, .int .i64 t159, .int .i64 t160, .int .i64 t161] 43 (0, 0))) ∧ Aside0 (Below w.heap.size w wc))
    case first =>
     have H := HC34.out
     clear HC34
     by_cases c35 : (wrap64 (a0_3 - t153)) = a1_0
     ·
      rw [if_pos c35] at H
      have c35b0 : ((wrap64 (a0_3 - t153)) == a1_0) = true := beq_iff_eq.mpr c35
      have c35b1 : ((wrap64 (a0_3 - t153)) != a1_0) = false := bne_eq_false_iff_eq.mpr c35
      clear c35
      (first | rw [c35b0] | (simp only [i64_w, i32_w]; rw [c35b0]) | skip)
      by_cases c36 : (wrap64 (a0_2 - t152)) = a1_1
      ·
       rw [if_pos c36] at H
       have c36b0 : ((wrap64 (a0_2 - t152)) == a1_1) = true := beq_iff_eq.mpr c36
       have c36b1 : ((wrap64 (a0_2 - t152)) != a1_1) = false := bne_eq_false_iff_eq.mpr c36
       clear c36
       have H' := Aside0.mk H
       clear H
       have hnb37 := NB145_146.out
       have hnc37 := NB146_145.out
       have hnb38 := NB145_163.out
       have hnc38 := NB163_145.out
       have hcz39_0 : wc.cell? ⟨gb145, 0, none⟩ = some (.int .i64 a0_0) := (blk_cell BK145.out 0).trans rfl
       have hcz39_1 : wc.cell? ⟨gb145, 1, none⟩ = some (.int .i64 a0_1) := (blk_cell BK145.out 1).trans rfl
       have hcz39_2 : wc.cell? ⟨gb145, 2, none⟩ = some (.int .i64 a0_2) := (blk_cell BK145.out 2).trans rfl
       have hcz39_3 : wc.cell? ⟨gb145, 3, none⟩ = some (.int .i64 a0_3) := (blk_cell BK145.out 3).trans rfl
       have hcz39_4 : wc.cell? ⟨gb145, 4, none⟩ = some (.int .i64 a0_4) := (blk_cell BK145.out 4).trans rfl
       have hcz39_5 : wc.cell? ⟨gb145, 5, none⟩ = some (.int .i64 a0_5) := (blk_cell BK145.out 5).trans rfl
       have hcz39_6 : wc.cell? ⟨gb145, 6, none⟩ = some (.int .i64 a0_6) := (blk_cell BK145.out 6).trans rfl
       have hcz39_7 : wc.cell? ⟨gb145, 7, none⟩ = some (.int .i64 a0_7) := (blk_cell BK145.out 7).trans rfl
       have hcz39_8 : wc.cell? ⟨gb145, 8, none⟩ = some (.int .i64 a0_8) := (blk_cell BK145.out 8).trans rfl
       have hcz39_9 : wc.cell? ⟨gb145, 9, none⟩ = some (.int .i64 a0_9) := (blk_cell BK145.out 9).trans rfl
       have hcz39_10 : wc.cell? ⟨gb145, 10, none⟩ = some (.int .i64 a0_10) := (blk_cell BK145.out 10).trans rfl
       have hcz39_11 : wc.cell? ⟨gb145, 11, none⟩ = some (.int .i64 a0_11) := (blk_cell BK145.out 11).trans rfl
       have hfz39_0 := blk_frozen BK145.out 0
       have hfz39_1 := blk_frozen BK145.out 1
       have hfz39_2 := blk_frozen BK145.out 2
       have hfz39_3 := blk_frozen BK145.out 3
       have hfz39_4 := blk_frozen BK145.out 4
       have hfz39_5 := blk_frozen BK145.out 5
       have hfz39_6 := blk_frozen BK145.out 6
       have hfz39_7 := blk_frozen BK145.out 7
       have hfz39_8 := blk_frozen BK145.out 8
       have hfz39_9 := blk_frozen BK145.out 9
       have hfz39_10 := blk_frozen BK145.out 10
       have hfz39_11 := blk_frozen BK145.out 11
       have hnb40 := NB163_146.out
       have hnc40 := NB146_163.out
       have hcz41_0 : wc.cell? ⟨gb163, 0, none⟩ = some (.int .i64 t150) := (blk_cell BK163.out 0).trans rfl
       have hcz41_1 : wc.cell? ⟨gb163, 1, none⟩ = some (.int .i64 t151) := (blk_cell BK163.out 1).trans rfl
       have hcz41_2 : wc.cell? ⟨gb163, 2, none⟩ = some (.int .i64 t152) := (blk_cell BK163.out 2).trans rfl
       have hcz41_3 : wc.cell? ⟨gb163, 3, none⟩ = some (.int .i64 t153) := (blk_cell BK163.out 3).trans rfl
       have hcz41_4 : wc.cell? ⟨gb163, 4, none⟩ = some (.int .i64 t154) := (blk_cell BK163.out 4).trans rfl
       have hcz41_5 : wc.cell? ⟨gb163, 5, none⟩ = some (.int .i64 t155) := (blk_cell BK163.out 5).trans rfl
       have hcz41_6 : wc.cell? ⟨gb163, 6, none⟩ = some (.int .i64 t156) := (blk_cell BK163.out 6).trans rfl
       have hcz41_7 : wc.cell? ⟨gb163, 7, none⟩ = some (.int .i64 t157) := (blk_cell BK163.out 7).trans rfl
       have hcz41_8 : wc.cell? ⟨gb163, 8, none⟩ = some (.int .i64 t158) := (blk_cell BK163.out 8).trans rfl
       have hcz41_9 : wc.cell? ⟨gb163, 9, none⟩ = some (.int .i64 t159) := (blk_cell BK163.out 9).trans rfl
       have hcz41_10 : wc.cell? ⟨gb163, 10, none⟩ = some (.int .i64 t160) := (blk_cell BK163.out 10).trans rfl
       have hcz41_11 : wc.cell? ⟨gb163, 11, none⟩ = some (.int .i64 t161) := (blk_cell BK163.out 11).trans rfl
       have hfz41_0 := blk_frozen BK163.out 0
       have hfz41_1 := blk_frozen BK163.out 1
       have hfz41_2 := blk_frozen BK163.out 2
       have hfz41_3 := blk_frozen BK163.out 3
       have hfz41_4 := blk_frozen BK163.out 4
       have hfz41_5 := blk_frozen BK163.out 5
       have hfz41_6 := blk_frozen BK163.out 6
       have hfz41_7 := blk_frozen BK163.out 7
       have hfz41_8 := blk_frozen BK163.out 8
       have hfz41_9 := blk_frozen BK163.out 9
       have hfz41_10 := blk_frozen BK163.out 10
       have hfz41_11 := blk_frozen BK163.out 11
       have hcz42_0 : wc.cell? ⟨gb146, 0, none⟩ = some (.int .i64 a1_0) := (blk_cell BK146.out 0).trans rfl
       have hcz42_1 : wc.cell? ⟨gb146, 1, none⟩ = some (.int .i64 a1_1) := (blk_cell BK146.out 1).trans rfl
       have hcz42_2 : wc.cell? ⟨gb146, 2, none⟩ = some (.int .i64 a1_2) := (blk_cell BK146.out 2).trans rfl
       have hcz42_3 : wc.cell? ⟨gb146, 3, none⟩ = some (.int .i64 a1_3) := (blk_cell BK146.out 3).trans rfl
       have hcz42_4 : wc.cell? ⟨gb146, 4, none⟩ = some (.int .i64 a1_4) := (blk_cell BK146.out 4).trans rfl
       have hfz42_0 := blk_frozen BK146.out 0
       have hfz42_1 := blk_frozen BK146.out 1
       have hfz42_2 := blk_frozen BK146.out 2
       have hfz42_3 := blk_frozen BK146.out 3
       have hfz42_4 := blk_frozen BK146.out 4
       go_wp2
       go_meet
       case rel => exact ⟨_, (((wrap64 (a0_1 - t151)) != a1_2)), (by first | rfl | (simp; done) | (simp [*]; done)), H', ⟨by have := HJ5.out; first | omega | exact Nat.le_refl _⟩, ⟨by (with_reducible repeat (first | refine blk_drewN ?_ _ | refine blk_drew ?_ | refine blk_alloc ?_ _)); exact BK145.out⟩, ⟨by (with_reducible repeat (first | refine blk_drewN ?_ _ | refine blk_drew ?_ | refine blk_alloc ?_ _)); exact BK146.out⟩, ⟨by (with_reducible repeat (first | refine blk_drewN ?_ _ | refine blk_drew ?_ | refine blk_alloc ?_ _)); exact BK163.out⟩, ⟨by repeat (first | (with_reducible first | exact HB.out | apply below_alloc | apply pw_below_drewN | apply below_drew1 | refine below_set ?_ (Aside0.out (by assumption))) | exact HB.out)⟩⟩
      ·
       rw [if_neg c36] at H
       have c36b0 : ((wrap64 (a0_2 - t152)) == a1_1) = false := beq_eq_false_iff_ne.mpr c36
       have c36b1 : ((wrap64 (a0_2 - t152)) != a1_1) = true := bne_iff_ne.mpr c36
       have H' := Aside0.mk H
       clear H
       have hnb43 := NB145_146.out
       have hnc43 := NB146_145.out
       have hnb44 := NB145_163.out
       have hnc44 := NB163_145.out
       have hcz45_0 : wc.cell? ⟨gb145, 0, none⟩ = some (.int .i64 a0_0) := (blk_cell BK145.out 0).trans rfl
       have hcz45_1 : wc.cell? ⟨gb145, 1, none⟩ = some (.int .i64 a0_1) := (blk_cell BK145.out 1).trans rfl
       have hcz45_2 : wc.cell? ⟨gb145, 2, none⟩ = some (.int .i64 a0_2) := (blk_cell BK145.out 2).trans rfl
       have hcz45_3 : wc.cell? ⟨gb145, 3, none⟩ = some (.int .i64 a0_3) := (blk_cell BK145.out 3).trans rfl
       have hcz45_4 : wc.cell? ⟨gb145, 4, none⟩ = some (.int .i64 a0_4) := (blk_cell BK145.out 4).trans rfl
       have hcz45_5 : wc.cell? ⟨gb145, 5, none⟩ = some (.int .i64 a0_5) := (blk_cell BK145.out 5).trans rfl
       have hcz45_6 : wc.cell? ⟨gb145, 6, none⟩ = some (.int .i64 a0_6) := (blk_cell BK145.out 6).trans rfl
       have hcz45_7 : wc.cell? ⟨gb145, 7, none⟩ = some (.int .i64 a0_7) := (blk_cell BK145.out 7).trans rfl
       have hcz45_8 : wc.cell? ⟨gb145, 8, none⟩ = some (.int .i64 a0_8) := (blk_cell BK145.out 8).trans rfl
       have hcz45_9 : wc.cell? ⟨gb145, 9, none⟩ = some (.int .i64 a0_9) := (blk_cell BK145.out 9).trans rfl
       have hcz45_10 : wc.cell? ⟨gb145, 10, none⟩ = some (.int .i64 a0_10) := (blk_cell BK145.out 10).trans rfl
       have hcz45_11 : wc.cell? ⟨gb145, 11, none⟩ = some (.int .i64 a0_11) := (blk_cell BK145.out 11).trans rfl
       have hfz45_0 := blk_frozen BK145.out 0
       have hfz45_1 := blk_frozen BK145.out 1
       have hfz45_2 := blk_frozen BK145.out 2
       have hfz45_3 := blk_frozen BK145.out 3
       have hfz45_4 := blk_frozen BK145.out 4
       have hfz45_5 := blk_frozen BK145.out 5
       have hfz45_6 := blk_frozen BK145.out 6
       have hfz45_7 := blk_frozen BK145.out 7
       have hfz45_8 := blk_frozen BK145.out 8
       have hfz45_9 := blk_frozen BK145.out 9
       have hfz45_10 := blk_frozen BK145.out 10
       have hfz45_11 := blk_frozen BK145.out 11
       have hnb46 := NB163_146.out
       have hnc46 := NB146_163.out
       have hcz47_0 : wc.cell? ⟨gb163, 0, none⟩ = some (.int .i64 t150) := (blk_cell BK163.out 0).trans rfl
       have hcz47_1 : wc.cell? ⟨gb163, 1, none⟩ = some (.int .i64 t151) := (blk_cell BK163.out 1).trans rfl
       have hcz47_2 : wc.cell? ⟨gb163, 2, none⟩ = some (.int .i64 t152) := (blk_cell BK163.out 2).trans rfl
       have hcz47_3 : wc.cell? ⟨gb163, 3, none⟩ = some (.int .i64 t153) := (blk_cell BK163.out 3).trans rfl
       have hcz47_4 : wc.cell? ⟨gb163, 4, none⟩ = some (.int .i64 t154) := (blk_cell BK163.out 4).trans rfl
       have hcz47_5 : wc.cell? ⟨gb163, 5, none⟩ = some (.int .i64 t155) := (blk_cell BK163.out 5).trans rfl
       have hcz47_6 : wc.cell? ⟨gb163, 6, none⟩ = some (.int .i64 t156) := (blk_cell BK163.out 6).trans rfl
       have hcz47_7 : wc.cell? ⟨gb163, 7, none⟩ = some (.int .i64 t157) := (blk_cell BK163.out 7).trans rfl
       have hcz47_8 : wc.cell? ⟨gb163, 8, none⟩ = some (.int .i64 t158) := (blk_cell BK163.out 8).trans rfl
       have hcz47_9 : wc.cell? ⟨gb163, 9, none⟩ = some (.int .i64 t159) := (blk_cell BK163.out 9).trans rfl
       have hcz47_10 : wc.cell? ⟨gb163, 10, none⟩ = some (.int .i64 t160) := (blk_cell BK163.out 10).trans rfl
       have hcz47_11 : wc.cell? ⟨gb163, 11, none⟩ = some (.int .i64 t161) := (blk_cell BK163.out 11).trans rfl
       have hfz47_0 := blk_frozen BK163.out 0
       have hfz47_1 := blk_frozen BK163.out 1
       have hfz47_2 := blk_frozen BK163.out 2
       have hfz47_3 := blk_frozen BK163.out 3
       have hfz47_4 := blk_frozen BK163.out 4
       have hfz47_5 := blk_frozen BK163.out 5
       have hfz47_6 := blk_frozen BK163.out 6
       have hfz47_7 := blk_frozen BK163.out 7
       have hfz47_8 := blk_frozen BK163.out 8
       have hfz47_9 := blk_frozen BK163.out 9
       have hfz47_10 := blk_frozen BK163.out 10
       have hfz47_11 := blk_frozen BK163.out 11
       have hcz48_0 : wc.cell? ⟨gb146, 0, none⟩ = some (.int .i64 a1_0) := (blk_cell BK146.out 0).trans rfl
       have hcz48_1 : wc.cell? ⟨gb146, 1, none⟩ = some (.int .i64 a1_1) := (blk_cell BK146.out 1).trans rfl
       have hcz48_2 : wc.cell? ⟨gb146, 2, none⟩ = some (.int .i64 a1_2) := (blk_cell BK146.out 2).trans rfl
       have hcz48_3 : wc.cell? ⟨gb146, 3, none⟩ = some (.int .i64 a1_3) := (blk_cell BK146.out 3).trans rfl
       have hcz48_4 : wc.cell? ⟨gb146, 4, none⟩ = some (.int .i64 a1_4) := (blk_cell BK146.out 4).trans rfl
       have hfz48_0 := blk_frozen BK146.out 0
       have hfz48_1 := blk_frozen BK146.out 1
       have hfz48_2 := blk_frozen BK146.out 2
       have hfz48_3 := blk_frozen BK146.out 3
       have hfz48_4 := blk_frozen BK146.out 4
       go_wp2
       go_meet
       case rel => exact ⟨_, (true), (by first | rfl | (simp; done) | (simp [*]; done)), H', ⟨by have := HJ5.out; first | omega | exact Nat.le_refl _⟩, ⟨by (with_reducible repeat (first | refine blk_drewN ?_ _ | refine blk_drew ?_ | refine blk_alloc ?_ _)); exact BK145.out⟩, ⟨by (with_reducible repeat (first | refine blk_drewN ?_ _ | refine blk_drew ?_ | refine blk_alloc ?_ _)); exact BK146.out⟩, ⟨by (with_reducible repeat (first | refine blk_drewN ?_ _ | refine blk_drew ?_ | refine blk_alloc ?_ _)); exact BK163.out⟩, ⟨by repeat (first | (with_reducible first | exact HB.out | apply below_alloc | apply pw_below_drewN | apply below_drew1 | refine below_set ?_ (Aside0.out (by assumption))) | exact HB.out)⟩⟩
     ·
      rw [if_neg c35] at H
      have c35b0 : ((wrap64 (a0_3 - t153)) == a1_0) = false := beq_eq_false_iff_ne.mpr c35
      have c35b1 : ((wrap64 (a0_3 - t153)) != a1_0) = true := bne_iff_ne.mpr c35
      (first | rw [c35b0] | (simp only [i64_w, i32_w]; rw [c35b0]) | skip)
      have H' := Aside0.mk H
      clear H
      have hnb49 := NB145_146.out
      have hnc49 := NB146_145.out
      have hnb50 := NB145_163.out
      have hnc50 := NB163_145.out
      have hcz51_0 : wc.cell? ⟨gb145, 0, none⟩ = some (.int .i64 a0_0) := (blk_cell BK145.out 0).trans rfl
      have hcz51_1 : wc.cell? ⟨gb145, 1, none⟩ = some (.int .i64 a0_1) := (blk_cell BK145.out 1).trans rfl
      have hcz51_2 : wc.cell? ⟨gb145, 2, none⟩ = some (.int .i64 a0_2) := (blk_cell BK145.out 2).trans rfl
      have hcz51_3 : wc.cell? ⟨gb145, 3, none⟩ = some (.int .i64 a0_3) := (blk_cell BK145.out 3).trans rfl
      have hcz51_4 : wc.cell? ⟨gb145, 4, none⟩ = some (.int .i64 a0_4) := (blk_cell BK145.out 4).trans rfl
      have hcz51_5 : wc.cell? ⟨gb145, 5, none⟩ = some (.int .i64 a0_5) := (blk_cell BK145.out 5).trans rfl
      have hcz51_6 : wc.cell? ⟨gb145, 6, none⟩ = some (.int .i64 a0_6) := (blk_cell BK145.out 6).trans rfl
      have hcz51_7 : wc.cell? ⟨gb145, 7, none⟩ = some (.int .i64 a0_7) := (blk_cell BK145.out 7).trans rfl
      have hcz51_8 : wc.cell? ⟨gb145, 8, none⟩ = some (.int .i64 a0_8) := (blk_cell BK145.out 8).trans rfl
      have hcz51_9 : wc.cell? ⟨gb145, 9, none⟩ = some (.int .i64 a0_9) := (blk_cell BK145.out 9).trans rfl
      have hcz51_10 : wc.cell? ⟨gb145, 10, none⟩ = some (.int .i64 a0_10) := (blk_cell BK145.out 10).trans rfl
      have hcz51_11 : wc.cell? ⟨gb145, 11, none⟩ = some (.int .i64 a0_11) := (blk_cell BK145.out 11).trans rfl
      have hfz51_0 := blk_frozen BK145.out 0
      have hfz51_1 := blk_frozen BK145.out 1
      have hfz51_2 := blk_frozen BK145.out 2
      have hfz51_3 := blk_frozen BK145.out 3
      have hfz51_4 := blk_frozen BK145.out 4
      have hfz51_5 := blk_frozen BK145.out 5
      have hfz51_6 := blk_frozen BK145.out 6
      have hfz51_7 := blk_frozen BK145.out 7
      have hfz51_8 := blk_frozen BK145.out 8
      have hfz51_9 := blk_frozen BK145.out 9
      have hfz51_10 := blk_frozen BK145.out 10
      have hfz51_11 := blk_frozen BK145.out 11
      have hnb52 := NB163_146.out
      have hnc52 := NB146_163.out
      have hcz53_0 : wc.cell? ⟨gb163, 0, none⟩ = some (.int .i64 t150) := (blk_cell BK163.out 0).trans rfl
      have hcz53_1 : wc.cell? ⟨gb163, 1, none⟩ = some (.int .i64 t151) := (blk_cell BK163.out 1).trans rfl
      have hcz53_2 : wc.cell? ⟨gb163, 2, none⟩ = some (.int .i64 t152) := (blk_cell BK163.out 2).trans rfl
      have hcz53_3 : wc.cell? ⟨gb163, 3, none⟩ = some (.int .i64 t153) := (blk_cell BK163.out 3).trans rfl
      have hcz53_4 : wc.cell? ⟨gb163, 4, none⟩ = some (.int .i64 t154) := (blk_cell BK163.out 4).trans rfl
      have hcz53_5 : wc.cell? ⟨gb163, 5, none⟩ = some (.int .i64 t155) := (blk_cell BK163.out 5).trans rfl
      have hcz53_6 : wc.cell? ⟨gb163, 6, none⟩ = some (.int .i64 t156) := (blk_cell BK163.out 6).trans rfl
      have hcz53_7 : wc.cell? ⟨gb163, 7, none⟩ = some (.int .i64 t157) := (blk_cell BK163.out 7).trans rfl
      have hcz53_8 : wc.cell? ⟨gb163, 8, none⟩ = some (.int .i64 t158) := (blk_cell BK163.out 8).trans rfl
      have hcz53_9 : wc.cell? ⟨gb163, 9, none⟩ = some (.int .i64 t159) := (blk_cell BK163.out 9).trans rfl
      have hcz53_10 : wc.cell? ⟨gb163, 10, none⟩ = some (.int .i64 t160) := (blk_cell BK163.out 10).trans rfl
      have hcz53_11 : wc.cell? ⟨gb163, 11, none⟩ = some (.int .i64 t161) := (blk_cell BK163.out 11).trans rfl
      have hfz53_0 := blk_frozen BK163.out 0
      have hfz53_1 := blk_frozen BK163.out 1
      have hfz53_2 := blk_frozen BK163.out 2
      have hfz53_3 := blk_frozen BK163.out 3
      have hfz53_4 := blk_frozen BK163.out 4
      have hfz53_5 := blk_frozen BK163.out 5
      have hfz53_6 := blk_frozen BK163.out 6
      have hfz53_7 := blk_frozen BK163.out 7
      have hfz53_8 := blk_frozen BK163.out 8
      have hfz53_9 := blk_frozen BK163.out 9
      have hfz53_10 := blk_frozen BK163.out 10
      have hfz53_11 := blk_frozen BK163.out 11
      have hcz54_0 : wc.cell? ⟨gb146, 0, none⟩ = some (.int .i64 a1_0) := (blk_cell BK146.out 0).trans rfl
      have hcz54_1 : wc.cell? ⟨gb146, 1, none⟩ = some (.int .i64 a1_1) := (blk_cell BK146.out 1).trans rfl
      have hcz54_2 : wc.cell? ⟨gb146, 2, none⟩ = some (.int .i64 a1_2) := (blk_cell BK146.out 2).trans rfl
      have hcz54_3 : wc.cell? ⟨gb146, 3, none⟩ = some (.int .i64 a1_3) := (blk_cell BK146.out 3).trans rfl
      have hcz54_4 : wc.cell? ⟨gb146, 4, none⟩ = some (.int .i64 a1_4) := (blk_cell BK146.out 4).trans rfl
      have hfz54_0 := blk_frozen BK146.out 0
      have hfz54_1 := blk_frozen BK146.out 1
      have hfz54_2 := blk_frozen BK146.out 2
      have hfz54_3 := blk_frozen BK146.out 3
      have hfz54_4 := blk_frozen BK146.out 4
      go_wp2
      go_meet
      case rel => exact ⟨_, (true), (by first | rfl | (simp; done) | (simp [*]; done)), H', ⟨by have := HJ5.out; first | omega | exact Nat.le_refl _⟩, ⟨by (with_reducible repeat (first | refine blk_drewN ?_ _ | refine blk_drew ?_ | refine blk_alloc ?_ _)); exact BK145.out⟩, ⟨by (with_reducible repeat (first | refine blk_drewN ?_ _ | refine blk_drew ?_ | refine blk_alloc ?_ _)); exact BK146.out⟩, ⟨by (with_reducible repeat (first | refine blk_drewN ?_ _ | refine blk_drew ?_ | refine blk_alloc ?_ _)); exact BK163.out⟩, ⟨by repeat (first | (with_reducible first | exact HB.out | apply below_alloc | apply pw_below_drewN | apply below_drew1 | refine below_set ?_ (Aside0.out (by assumption))) | exact HB.out)⟩⟩
    case rest =>
     clear HC34
     (try clear c1); (try clear c2); (try clear p2 p2); (try clear c3); (try clear c4); (try clear c5); (try clear p6 p6); (try clear c15); (try clear c20); (try clear c21); (try clear c27); (try clear c27b0); (try clear c27b1); (try clear c28); (try clear c29); (try clear c31); (try clear c33); (try clear c35); (try clear c35b0); (try clear c35b1); (try clear c36); (try clear c36b0); (try clear c36b1); (try clear c37); (try clear c38); (try clear c40); (try clear c43); (try clear c44); (try clear c46); (try clear c49); (try clear c50); (try clear c52); (try clear hcz30_0 hcz30_1 hcz30_10 hcz30_11 hcz30_2 hcz30_3 hcz30_4 hcz30_5 hcz30_6 hcz30_7 hcz30_8 hcz30_9 hfz30_0 hfz30_1 hfz30_10 hfz30_11 hfz30_2 hfz30_3 hfz30_4 hfz30_5 hfz30_6 hfz30_7 hfz30_8 hfz30_9); (try clear hcz32_0 hcz32_1 hcz32_10 hcz32_11 hcz32_2 hcz32_3 hcz32_4 hcz32_5 hcz32_6 hcz32_7 hcz32_8 hcz32_9 hfz32_0 hfz32_1 hfz32_10 hfz32_11 hfz32_2 hfz32_3 hfz32_4 hfz32_5 hfz32_6 hfz32_7 hfz32_8 hfz32_9); (try clear hcz39_0 hcz39_1 hcz39_10 hcz39_11 hcz39_2 hcz39_3 hcz39_4 hcz39_5 hcz39_6 hcz39_7 hcz39_8 hcz39_9 hfz39_0 hfz39_1 hfz39_10 hfz39_11 hfz39_2 hfz39_3 hfz39_4 hfz39_5 hfz39_6 hfz39_7 hfz39_8 hfz39_9); (try clear hcz41_0 hcz41_1 hcz41_10 hcz41_11 hcz41_2 hcz41_3 hcz41_4 hcz41_5 hcz41_6 hcz41_7 hcz41_8 hcz41_9 hfz41_0 hfz41_1 hfz41_10 hfz41_11 hfz41_2 hfz41_3 hfz41_4 hfz41_5 hfz41_6 hfz41_7 hfz41_8 hfz41_9); (try clear hcz42_0 hcz42_1 hcz42_2 hcz42_3 hcz42_4 hfz42_0 hfz42_1 hfz42_2 hfz42_3 hfz42_4); (try clear hcz45_0 hcz45_1 hcz45_10 hcz45_11 hcz45_2 hcz45_3 hcz45_4 hcz45_5 hcz45_6 hcz45_7 hcz45_8 hcz45_9 hfz45_0 hfz45_1 hfz45_10 hfz45_11 hfz45_2 hfz45_3 hfz45_4 hfz45_5 hfz45_6 hfz45_7 hfz45_8 hfz45_9); (try clear hcz47_0 hcz47_1 hcz47_10 hcz47_11 hcz47_2 hcz47_3 hcz47_4 hcz47_5 hcz47_6 hcz47_7 hcz47_8 hcz47_9 hfz47_0 hfz47_1 hfz47_10 hfz47_11 hfz47_2 hfz47_3 hfz47_4 hfz47_5 hfz47_6 hfz47_7 hfz47_8 hfz47_9); (try clear hcz48_0 hcz48_1 hcz48_2 hcz48_3 hcz48_4 hfz48_0 hfz48_1 hfz48_2 hfz48_3 hfz48_4); (try clear hcz51_0 hcz51_1 hcz51_10 hcz51_11 hcz51_2 hcz51_3 hcz51_4 hcz51_5 hcz51_6 hcz51_7 hcz51_8 hcz51_9 hfz51_0 hfz51_1 hfz51_10 hfz51_11 hfz51_2 hfz51_3 hfz51_4 hfz51_5 hfz51_6 hfz51_7 hfz51_8 hfz51_9); (try clear hcz53_0 hcz53_1 hcz53_10 hcz53_11 hcz53_2 hcz53_3 hcz53_4 hcz53_5 hcz53_6 hcz53_7 hcz53_8 hcz53_9 hfz53_0 hfz53_1 hfz53_10 hfz53_11 hfz53_2 hfz53_3 hfz53_4 hfz53_5 hfz53_6 hfz53_7 hfz53_8 hfz53_9); (try clear hcz54_0 hcz54_1 hcz54_2 hcz54_3 hcz54_4 hfz54_0 hfz54_1 hfz54_2 hfz54_3 hfz54_4)
     obtain ⟨kq, x68_33, rfl, HA, HJ33, BK145, BK146, BK163, HB⟩ := hcut
     cases kq with
     | zero => exact absurd HA.out (by simp [arrearslaw9_posted.j1])
     | succ kj33 =>
      have H := HA.out
      clear HA
      simp only [arrearslaw9_posted.j1] at H
      by_cases c55 : x68_33 = true
      ·
       subst c55
       have H1 : (none) = some r := by rw [if_pos rfl] at H; exact H
       clear H
       have H := H1
       clear H1
       exact absurd H (by simp)
      ·
       replace c55 := Bool.eq_false_iff.mpr c55
       subst c55
       have H1 : (if (wrap64 (a0_4 - t154)) = a1_3 then (arrearslaw9_posted.j2 kj33 ((wrap64 (a0_10 - t160)) != a1_4) a0_0 a0_1 a0_2 a0_3 a0_4 a0_5 a0_6 a0_7 a0_8 a0_9 a0_10 a0_11 a1_0 a1_1 a1_2 a1_3 a1_4 t150 t151 t152 t153 t154 t155 t156 t157 t158 t159 t160 t161) else (arrearslaw9_posted.j2 kj33 true a0_0 a0_1 a0_2 a0_3 a0_4 a0_5 a0_6 a0_7 a0_8 a0_9 a0_10 a0_11 a1_0 a1_1 a1_2 a1_3 a1_4 t150 t151 t152 t153 t154 t155 t156 t157 t158 t159 t160 t161)) = some r := by rw [if_neg (show ¬ (false = true) by decide)] at H; exact H
       clear H
       have H := H1
       clear H1
       have HC56 := Aside0.mk H
       clear H
       go_upto_region 6 with (fail)
       go_cut [90] (fun v90 wc => ∃ (kq : Nat) (x90_55 : Bool), v90 = .bool x90_55 ∧ Aside0 (arrearslaw9_posted.j2 kq x90_55 a0_0 a0_1 a0_2 a0_3 a0_4 a0_5 a0_6 a0_7 a0_8 a0_9 a0_10 a0_11 a1_0 a1_1 a1_2 a1_3 a1_4 t150 t151 t152 t153 t154 t155 t156 t157 t158 t159 t160 t161 = some r) ∧ Aside0 (kq ≤ kj33) ∧ Aside0 (wc.heap[gb145]? = some (.cells #[.int .i64 a0_0, .int .i64 a0_1, .int .i64 a0_2, .int .i64 a0_3, .int .i64 a0_4, .int .i64 a0_5, .int .i64 a0_6, .int .i64 a0_7, .int .i64 a0_8, .int .i64 a0_9, .int .i64 a0_10, .int .i64 a0_11] 43 (0, 0))) ∧ Aside0 (wc.heap[gb146]? = some (.cells #[.int .i64 a1_0, .int .i64 a1_1, .int .i64 a1_2, .int .i64 a1_3, .int .i64 a1_4] 28 (0, 0))) ∧ Aside0 (wc.heap[gb163]? = some (.cells #[.int .i64 t150, .int .i64 t151, .int .i64 t152, .int .i64 t153, .int .i64 t154, .int .i64 t155, .int .i64 t156, .int .i64 t157, .int .i64 t158, .int .i64 t159, .int .i64 t160, .int .i64 t161] 43 (0, 0))) ∧ Aside0 (Below w.heap.size w wc))
       case first =>
        have H := HC56.out
        clear HC56
        by_cases c57 : (wrap64 (a0_4 - t154)) = a1_3
        ·
         rw [if_pos c57] at H
         have c57b0 : ((wrap64 (a0_4 - t154)) == a1_3) = true := beq_iff_eq.mpr c57
         have c57b1 : ((wrap64 (a0_4 - t154)) != a1_3) = false := bne_eq_false_iff_eq.mpr c57
         clear c57
         (first | rw [c57b0] | (simp only [i64_w, i32_w]; rw [c57b0]) | skip)
         have H' := Aside0.mk H
         clear H
         have hnb58 := NB145_146.out
         have hnc58 := NB146_145.out
         have hnb59 := NB145_163.out
         have hnc59 := NB163_145.out
         have hcz60_0 : wc.cell? ⟨gb145, 0, none⟩ = some (.int .i64 a0_0) := (blk_cell BK145.out 0).trans rfl
         have hcz60_1 : wc.cell? ⟨gb145, 1, none⟩ = some (.int .i64 a0_1) := (blk_cell BK145.out 1).trans rfl
         have hcz60_2 : wc.cell? ⟨gb145, 2, none⟩ = some (.int .i64 a0_2) := (blk_cell BK145.out 2).trans rfl
         have hcz60_3 : wc.cell? ⟨gb145, 3, none⟩ = some (.int .i64 a0_3) := (blk_cell BK145.out 3).trans rfl
         have hcz60_4 : wc.cell? ⟨gb145, 4, none⟩ = some (.int .i64 a0_4) := (blk_cell BK145.out 4).trans rfl
         have hcz60_5 : wc.cell? ⟨gb145, 5, none⟩ = some (.int .i64 a0_5) := (blk_cell BK145.out 5).trans rfl
         have hcz60_6 : wc.cell? ⟨gb145, 6, none⟩ = some (.int .i64 a0_6) := (blk_cell BK145.out 6).trans rfl
         have hcz60_7 : wc.cell? ⟨gb145, 7, none⟩ = some (.int .i64 a0_7) := (blk_cell BK145.out 7).trans rfl
         have hcz60_8 : wc.cell? ⟨gb145, 8, none⟩ = some (.int .i64 a0_8) := (blk_cell BK145.out 8).trans rfl
         have hcz60_9 : wc.cell? ⟨gb145, 9, none⟩ = some (.int .i64 a0_9) := (blk_cell BK145.out 9).trans rfl
         have hcz60_10 : wc.cell? ⟨gb145, 10, none⟩ = some (.int .i64 a0_10) := (blk_cell BK145.out 10).trans rfl
         have hcz60_11 : wc.cell? ⟨gb145, 11, none⟩ = some (.int .i64 a0_11) := (blk_cell BK145.out 11).trans rfl
         have hfz60_0 := blk_frozen BK145.out 0
         have hfz60_1 := blk_frozen BK145.out 1
         have hfz60_2 := blk_frozen BK145.out 2
         have hfz60_3 := blk_frozen BK145.out 3
         have hfz60_4 := blk_frozen BK145.out 4
         have hfz60_5 := blk_frozen BK145.out 5
         have hfz60_6 := blk_frozen BK145.out 6
         have hfz60_7 := blk_frozen BK145.out 7
         have hfz60_8 := blk_frozen BK145.out 8
         have hfz60_9 := blk_frozen BK145.out 9
         have hfz60_10 := blk_frozen BK145.out 10
         have hfz60_11 := blk_frozen BK145.out 11
         have hnb61 := NB163_146.out
         have hnc61 := NB146_163.out
         have hcz62_0 : wc.cell? ⟨gb163, 0, none⟩ = some (.int .i64 t150) := (blk_cell BK163.out 0).trans rfl
         have hcz62_1 : wc.cell? ⟨gb163, 1, none⟩ = some (.int .i64 t151) := (blk_cell BK163.out 1).trans rfl
         have hcz62_2 : wc.cell? ⟨gb163, 2, none⟩ = some (.int .i64 t152) := (blk_cell BK163.out 2).trans rfl
         have hcz62_3 : wc.cell? ⟨gb163, 3, none⟩ = some (.int .i64 t153) := (blk_cell BK163.out 3).trans rfl
         have hcz62_4 : wc.cell? ⟨gb163, 4, none⟩ = some (.int .i64 t154) := (blk_cell BK163.out 4).trans rfl
         have hcz62_5 : wc.cell? ⟨gb163, 5, none⟩ = some (.int .i64 t155) := (blk_cell BK163.out 5).trans rfl
         have hcz62_6 : wc.cell? ⟨gb163, 6, none⟩ = some (.int .i64 t156) := (blk_cell BK163.out 6).trans rfl
         have hcz62_7 : wc.cell? ⟨gb163, 7, none⟩ = some (.int .i64 t157) := (blk_cell BK163.out 7).trans rfl
         have hcz62_8 : wc.cell? ⟨gb163, 8, none⟩ = some (.int .i64 t158) := (blk_cell BK163.out 8).trans rfl
         have hcz62_9 : wc.cell? ⟨gb163, 9, none⟩ = some (.int .i64 t159) := (blk_cell BK163.out 9).trans rfl
         have hcz62_10 : wc.cell? ⟨gb163, 10, none⟩ = some (.int .i64 t160) := (blk_cell BK163.out 10).trans rfl
         have hcz62_11 : wc.cell? ⟨gb163, 11, none⟩ = some (.int .i64 t161) := (blk_cell BK163.out 11).trans rfl
         have hfz62_0 := blk_frozen BK163.out 0
         have hfz62_1 := blk_frozen BK163.out 1
         have hfz62_2 := blk_frozen BK163.out 2
         have hfz62_3 := blk_frozen BK163.out 3
         have hfz62_4 := blk_frozen BK163.out 4
         have hfz62_5 := blk_frozen BK163.out 5
         have hfz62_6 := blk_frozen BK163.out 6
         have hfz62_7 := blk_frozen BK163.out 7
         have hfz62_8 := blk_frozen BK163.out 8
         have hfz62_9 := blk_frozen BK163.out 9
         have hfz62_10 := blk_frozen BK163.out 10
         have hfz62_11 := blk_frozen BK163.out 11
         have hcz63_0 : wc.cell? ⟨gb146, 0, none⟩ = some (.int .i64 a1_0) := (blk_cell BK146.out 0).trans rfl
         have hcz63_1 : wc.cell? ⟨gb146, 1, none⟩ = some (.int .i64 a1_1) := (blk_cell BK146.out 1).trans rfl
         have hcz63_2 : wc.cell? ⟨gb146, 2, none⟩ = some (.int .i64 a1_2) := (blk_cell BK146.out 2).trans rfl
         have hcz63_3 : wc.cell? ⟨gb146, 3, none⟩ = some (.int .i64 a1_3) := (blk_cell BK146.out 3).trans rfl
         have hcz63_4 : wc.cell? ⟨gb146, 4, none⟩ = some (.int .i64 a1_4) := (blk_cell BK146.out 4).trans rfl
         have hfz63_0 := blk_frozen BK146.out 0
         have hfz63_1 := blk_frozen BK146.out 1
         have hfz63_2 := blk_frozen BK146.out 2
         have hfz63_3 := blk_frozen BK146.out 3
         have hfz63_4 := blk_frozen BK146.out 4
         go_wp2
         go_meet
         case rel => exact ⟨_, (((wrap64 (a0_10 - t160)) != a1_4)), (by first | rfl | (simp; done) | (simp [*]; done)), H', ⟨by have := HJ5.out; have := HJ33.out; first | omega | exact Nat.le_refl _⟩, ⟨by (with_reducible repeat (first | refine blk_drewN ?_ _ | refine blk_drew ?_ | refine blk_alloc ?_ _)); exact BK145.out⟩, ⟨by (with_reducible repeat (first | refine blk_drewN ?_ _ | refine blk_drew ?_ | refine blk_alloc ?_ _)); exact BK146.out⟩, ⟨by (with_reducible repeat (first | refine blk_drewN ?_ _ | refine blk_drew ?_ | refine blk_alloc ?_ _)); exact BK163.out⟩, ⟨by repeat (first | (with_reducible first | exact HB.out | apply below_alloc | apply pw_below_drewN | apply below_drew1 | refine below_set ?_ (Aside0.out (by assumption))) | exact HB.out)⟩⟩
        ·
         rw [if_neg c57] at H
         have c57b0 : ((wrap64 (a0_4 - t154)) == a1_3) = false := beq_eq_false_iff_ne.mpr c57
         have c57b1 : ((wrap64 (a0_4 - t154)) != a1_3) = true := bne_iff_ne.mpr c57
         (first | rw [c57b0] | (simp only [i64_w, i32_w]; rw [c57b0]) | skip)
         have H' := Aside0.mk H
         clear H
         have hnb64 := NB145_146.out
         have hnc64 := NB146_145.out
         have hnb65 := NB145_163.out
         have hnc65 := NB163_145.out
         have hcz66_0 : wc.cell? ⟨gb145, 0, none⟩ = some (.int .i64 a0_0) := (blk_cell BK145.out 0).trans rfl
         have hcz66_1 : wc.cell? ⟨gb145, 1, none⟩ = some (.int .i64 a0_1) := (blk_cell BK145.out 1).trans rfl
         have hcz66_2 : wc.cell? ⟨gb145, 2, none⟩ = some (.int .i64 a0_2) := (blk_cell BK145.out 2).trans rfl
         have hcz66_3 : wc.cell? ⟨gb145, 3, none⟩ = some (.int .i64 a0_3) := (blk_cell BK145.out 3).trans rfl
         have hcz66_4 : wc.cell? ⟨gb145, 4, none⟩ = some (.int .i64 a0_4) := (blk_cell BK145.out 4).trans rfl
         have hcz66_5 : wc.cell? ⟨gb145, 5, none⟩ = some (.int .i64 a0_5) := (blk_cell BK145.out 5).trans rfl
         have hcz66_6 : wc.cell? ⟨gb145, 6, none⟩ = some (.int .i64 a0_6) := (blk_cell BK145.out 6).trans rfl
         have hcz66_7 : wc.cell? ⟨gb145, 7, none⟩ = some (.int .i64 a0_7) := (blk_cell BK145.out 7).trans rfl
         have hcz66_8 : wc.cell? ⟨gb145, 8, none⟩ = some (.int .i64 a0_8) := (blk_cell BK145.out 8).trans rfl
         have hcz66_9 : wc.cell? ⟨gb145, 9, none⟩ = some (.int .i64 a0_9) := (blk_cell BK145.out 9).trans rfl
         have hcz66_10 : wc.cell? ⟨gb145, 10, none⟩ = some (.int .i64 a0_10) := (blk_cell BK145.out 10).trans rfl
         have hcz66_11 : wc.cell? ⟨gb145, 11, none⟩ = some (.int .i64 a0_11) := (blk_cell BK145.out 11).trans rfl
         have hfz66_0 := blk_frozen BK145.out 0
         have hfz66_1 := blk_frozen BK145.out 1
         have hfz66_2 := blk_frozen BK145.out 2
         have hfz66_3 := blk_frozen BK145.out 3
         have hfz66_4 := blk_frozen BK145.out 4
         have hfz66_5 := blk_frozen BK145.out 5
         have hfz66_6 := blk_frozen BK145.out 6
         have hfz66_7 := blk_frozen BK145.out 7
         have hfz66_8 := blk_frozen BK145.out 8
         have hfz66_9 := blk_frozen BK145.out 9
         have hfz66_10 := blk_frozen BK145.out 10
         have hfz66_11 := blk_frozen BK145.out 11
         have hnb67 := NB163_146.out
         have hnc67 := NB146_163.out
         have hcz68_0 : wc.cell? ⟨gb163, 0, none⟩ = some (.int .i64 t150) := (blk_cell BK163.out 0).trans rfl
         have hcz68_1 : wc.cell? ⟨gb163, 1, none⟩ = some (.int .i64 t151) := (blk_cell BK163.out 1).trans rfl
         have hcz68_2 : wc.cell? ⟨gb163, 2, none⟩ = some (.int .i64 t152) := (blk_cell BK163.out 2).trans rfl
         have hcz68_3 : wc.cell? ⟨gb163, 3, none⟩ = some (.int .i64 t153) := (blk_cell BK163.out 3).trans rfl
         have hcz68_4 : wc.cell? ⟨gb163, 4, none⟩ = some (.int .i64 t154) := (blk_cell BK163.out 4).trans rfl
         have hcz68_5 : wc.cell? ⟨gb163, 5, none⟩ = some (.int .i64 t155) := (blk_cell BK163.out 5).trans rfl
         have hcz68_6 : wc.cell? ⟨gb163, 6, none⟩ = some (.int .i64 t156) := (blk_cell BK163.out 6).trans rfl
         have hcz68_7 : wc.cell? ⟨gb163, 7, none⟩ = some (.int .i64 t157) := (blk_cell BK163.out 7).trans rfl
         have hcz68_8 : wc.cell? ⟨gb163, 8, none⟩ = some (.int .i64 t158) := (blk_cell BK163.out 8).trans rfl
         have hcz68_9 : wc.cell? ⟨gb163, 9, none⟩ = some (.int .i64 t159) := (blk_cell BK163.out 9).trans rfl
         have hcz68_10 : wc.cell? ⟨gb163, 10, none⟩ = some (.int .i64 t160) := (blk_cell BK163.out 10).trans rfl
         have hcz68_11 : wc.cell? ⟨gb163, 11, none⟩ = some (.int .i64 t161) := (blk_cell BK163.out 11).trans rfl
         have hfz68_0 := blk_frozen BK163.out 0
         have hfz68_1 := blk_frozen BK163.out 1
         have hfz68_2 := blk_frozen BK163.out 2
         have hfz68_3 := blk_frozen BK163.out 3
         have hfz68_4 := blk_frozen BK163.out 4
         have hfz68_5 := blk_frozen BK163.out 5
         have hfz68_6 := blk_frozen BK163.out 6
         have hfz68_7 := blk_frozen BK163.out 7
         have hfz68_8 := blk_frozen BK163.out 8
         have hfz68_9 := blk_frozen BK163.out 9
         have hfz68_10 := blk_frozen BK163.out 10
         have hfz68_11 := blk_frozen BK163.out 11
         have hcz69_0 : wc.cell? ⟨gb146, 0, none⟩ = some (.int .i64 a1_0) := (blk_cell BK146.out 0).trans rfl
         have hcz69_1 : wc.cell? ⟨gb146, 1, none⟩ = some (.int .i64 a1_1) := (blk_cell BK146.out 1).trans rfl
         have hcz69_2 : wc.cell? ⟨gb146, 2, none⟩ = some (.int .i64 a1_2) := (blk_cell BK146.out 2).trans rfl
         have hcz69_3 : wc.cell? ⟨gb146, 3, none⟩ = some (.int .i64 a1_3) := (blk_cell BK146.out 3).trans rfl
         have hcz69_4 : wc.cell? ⟨gb146, 4, none⟩ = some (.int .i64 a1_4) := (blk_cell BK146.out 4).trans rfl
         have hfz69_0 := blk_frozen BK146.out 0
         have hfz69_1 := blk_frozen BK146.out 1
         have hfz69_2 := blk_frozen BK146.out 2
         have hfz69_3 := blk_frozen BK146.out 3
         have hfz69_4 := blk_frozen BK146.out 4
         go_wp2
         go_meet
         case rel => exact ⟨_, (true), (by first | rfl | (simp; done) | (simp [*]; done)), H', ⟨by have := HJ5.out; have := HJ33.out; first | omega | exact Nat.le_refl _⟩, ⟨by (with_reducible repeat (first | refine blk_drewN ?_ _ | refine blk_drew ?_ | refine blk_alloc ?_ _)); exact BK145.out⟩, ⟨by (with_reducible repeat (first | refine blk_drewN ?_ _ | refine blk_drew ?_ | refine blk_alloc ?_ _)); exact BK146.out⟩, ⟨by (with_reducible repeat (first | refine blk_drewN ?_ _ | refine blk_drew ?_ | refine blk_alloc ?_ _)); exact BK163.out⟩, ⟨by repeat (first | (with_reducible first | exact HB.out | apply below_alloc | apply pw_below_drewN | apply below_drew1 | refine below_set ?_ (Aside0.out (by assumption))) | exact HB.out)⟩⟩
       case rest =>
        clear HC56
        (try clear c1); (try clear c2); (try clear p2 p2); (try clear c3); (try clear c4); (try clear c5); (try clear c6); (try clear p6 p6); (try clear c15); (try clear c20); (try clear c21); (try clear c27); (try clear c27b0); (try clear c27b1); (try clear c28); (try clear c29); (try clear c31); (try clear c33); (try clear c35); (try clear c35b0); (try clear c35b1); (try clear c36); (try clear c36b0); (try clear c36b1); (try clear c37); (try clear c38); (try clear c40); (try clear c43); (try clear c44); (try clear c46); (try clear c49); (try clear c50); (try clear c52); (try clear c55); (try clear c57); (try clear c57b0); (try clear c57b1); (try clear c58); (try clear c59); (try clear c61); (try clear c64); (try clear p64); (try clear c65); (try clear c67); (try clear hcz30_0 hcz30_1 hcz30_10 hcz30_11 hcz30_2 hcz30_3 hcz30_4 hcz30_5 hcz30_6 hcz30_7 hcz30_8 hcz30_9 hfz30_0 hfz30_1 hfz30_10 hfz30_11 hfz30_2 hfz30_3 hfz30_4 hfz30_5 hfz30_6 hfz30_7 hfz30_8 hfz30_9); (try clear hcz32_0 hcz32_1 hcz32_10 hcz32_11 hcz32_2 hcz32_3 hcz32_4 hcz32_5 hcz32_6 hcz32_7 hcz32_8 hcz32_9 hfz32_0 hfz32_1 hfz32_10 hfz32_11 hfz32_2 hfz32_3 hfz32_4 hfz32_5 hfz32_6 hfz32_7 hfz32_8 hfz32_9); (try clear hcz39_0 hcz39_1 hcz39_10 hcz39_11 hcz39_2 hcz39_3 hcz39_4 hcz39_5 hcz39_6 hcz39_7 hcz39_8 hcz39_9 hfz39_0 hfz39_1 hfz39_10 hfz39_11 hfz39_2 hfz39_3 hfz39_4 hfz39_5 hfz39_6 hfz39_7 hfz39_8 hfz39_9); (try clear hcz41_0 hcz41_1 hcz41_10 hcz41_11 hcz41_2 hcz41_3 hcz41_4 hcz41_5 hcz41_6 hcz41_7 hcz41_8 hcz41_9 hfz41_0 hfz41_1 hfz41_10 hfz41_11 hfz41_2 hfz41_3 hfz41_4 hfz41_5 hfz41_6 hfz41_7 hfz41_8 hfz41_9); (try clear hcz42_0 hcz42_1 hcz42_2 hcz42_3 hcz42_4 hfz42_0 hfz42_1 hfz42_2 hfz42_3 hfz42_4); (try clear hcz45_0 hcz45_1 hcz45_10 hcz45_11 hcz45_2 hcz45_3 hcz45_4 hcz45_5 hcz45_6 hcz45_7 hcz45_8 hcz45_9 hfz45_0 hfz45_1 hfz45_10 hfz45_11 hfz45_2 hfz45_3 hfz45_4 hfz45_5 hfz45_6 hfz45_7 hfz45_8 hfz45_9); (try clear hcz47_0 hcz47_1 hcz47_10 hcz47_11 hcz47_2 hcz47_3 hcz47_4 hcz47_5 hcz47_6 hcz47_7 hcz47_8 hcz47_9 hfz47_0 hfz47_1 hfz47_10 hfz47_11 hfz47_2 hfz47_3 hfz47_4 hfz47_5 hfz47_6 hfz47_7 hfz47_8 hfz47_9); (try clear hcz48_0 hcz48_1 hcz48_2 hcz48_3 hcz48_4 hfz48_0 hfz48_1 hfz48_2 hfz48_3 hfz48_4); (try clear hcz51_0 hcz51_1 hcz51_10 hcz51_11 hcz51_2 hcz51_3 hcz51_4 hcz51_5 hcz51_6 hcz51_7 hcz51_8 hcz51_9 hfz51_0 hfz51_1 hfz51_10 hfz51_11 hfz51_2 hfz51_3 hfz51_4 hfz51_5 hfz51_6 hfz51_7 hfz51_8 hfz51_9); (try clear hcz53_0 hcz53_1 hcz53_10 hcz53_11 hcz53_2 hcz53_3 hcz53_4 hcz53_5 hcz53_6 hcz53_7 hcz53_8 hcz53_9 hfz53_0 hfz53_1 hfz53_10 hfz53_11 hfz53_2 hfz53_3 hfz53_4 hfz53_5 hfz53_6 hfz53_7 hfz53_8 hfz53_9); (try clear hcz54_0 hcz54_1 hcz54_2 hcz54_3 hcz54_4 hfz54_0 hfz54_1 hfz54_2 hfz54_3 hfz54_4); (try clear hcz60_0 hcz60_1 hcz60_10 hcz60_11 hcz60_2 hcz60_3 hcz60_4 hcz60_5 hcz60_6 hcz60_7 hcz60_8 hcz60_9 hfz60_0 hfz60_1 hfz60_10 hfz60_11 hfz60_2 hfz60_3 hfz60_4 hfz60_5 hfz60_6 hfz60_7 hfz60_8 hfz60_9); (try clear hcz62_0 hcz62_1 hcz62_10 hcz62_11 hcz62_2 hcz62_3 hcz62_4 hcz62_5 hcz62_6 hcz62_7 hcz62_8 hcz62_9 hfz62_0 hfz62_1 hfz62_10 hfz62_11 hfz62_2 hfz62_3 hfz62_4 hfz62_5 hfz62_6 hfz62_7 hfz62_8 hfz62_9); (try clear hcz63_0 hcz63_1 hcz63_2 hcz63_3 hcz63_4 hfz63_0 hfz63_1 hfz63_2 hfz63_3 hfz63_4); (try clear hcz66_0 hcz66_1 hcz66_10 hcz66_11 hcz66_2 hcz66_3 hcz66_4 hcz66_5 hcz66_6 hcz66_7 hcz66_8 hcz66_9 hfz66_0 hfz66_1 hfz66_10 hfz66_11 hfz66_2 hfz66_3 hfz66_4 hfz66_5 hfz66_6 hfz66_7 hfz66_8 hfz66_9); (try clear hcz68_0 hcz68_1 hcz68_10 hcz68_11 hcz68_2 hcz68_3 hcz68_4 hcz68_5 hcz68_6 hcz68_7 hcz68_8 hcz68_9 hfz68_0 hfz68_1 hfz68_10 hfz68_11 hfz68_2 hfz68_3 hfz68_4 hfz68_5 hfz68_6 hfz68_7 hfz68_8 hfz68_9); (try clear hcz69_0 hcz69_1 hcz69_2 hcz69_3 hcz69_4 hfz69_0 hfz69_1 hfz69_2 hfz69_3 hfz69_4)
        obtain ⟨kq, x90_55, rfl, HA, HJ55, BK145, BK146, BK163, HB⟩ := hcut
        cases kq with
        | zero => exact absurd HA.out (by simp [arrearslaw9_posted.j2])
        | succ kj55 =>
         have H := HA.out
         clear HA
         simp only [arrearslaw9_posted.j2] at H
         by_cases c70 : x90_55 = true
         ·
          subst c70
          have H1 : (none) = some r := by rw [if_pos rfl] at H; exact H
          clear H
          have H := H1
          clear H1
          exact absurd H (by simp)
         ·
          replace c70 := Bool.eq_false_iff.mpr c70
          subst c70
          have H1 : ((ledger_Trial.f kj55 t150 t151 t152 t153 t154 t155 t156 t157 t158 t159 t160 t161).bind fun bt164 => (if bt164.2.2 = true then (arrearslaw9_posted.j3 kj55 (bt164.1 != bt164.2.1) a0_0 a0_1 a0_2 a0_3 a0_4 a0_5 a0_6 a0_7 a0_8 a0_9 a0_10 a0_11 a1_0 a1_1 a1_2 a1_3 a1_4 t150 t151 t152 t153 t154 t155 t156 t157 t158 t159 t160 t161) else (arrearslaw9_posted.j3 kj55 true a0_0 a0_1 a0_2 a0_3 a0_4 a0_5 a0_6 a0_7 a0_8 a0_9 a0_10 a0_11 a1_0 a1_1 a1_2 a1_3 a1_4 t150 t151 t152 t153 t154 t155 t156 t157 t158 t159 t160 t161))) = some r := by rw [if_neg (show ¬ (false = true) by decide)] at H; exact H
          clear H
          have H := H1
          clear H1
          replace H := Option.bind_eq_some_iff.mp H
          obtain ⟨⟨t164, t165, t166⟩, A710, H⟩ := H
          replace H : (if t166 = true then (arrearslaw9_posted.j3 kj55 (t164 != t165) a0_0 a0_1 a0_2 a0_3 a0_4 a0_5 a0_6 a0_7 a0_8 a0_9 a0_10 a0_11 a1_0 a1_1 a1_2 a1_3 a1_4 t150 t151 t152 t153 t154 t155 t156 t157 t158 t159 t160 t161) else (arrearslaw9_posted.j3 kj55 true a0_0 a0_1 a0_2 a0_3 a0_4 a0_5 a0_6 a0_7 a0_8 a0_9 a0_10 a0_11 a1_0 a1_1 a1_2 a1_3 a1_4 t150 t151 t152 t153 t154 t155 t156 t157 t158 t159 t160 t161)) = some r := H
          have A71 := Aside0.mk A710
          clear A710
          have HC72 := Aside0.mk H
          clear H
          have hnb73 := NB163_145.out
          have hnc73 := NB145_163.out
          have hnb74 := NB163_146.out
          have hnc74 := NB146_163.out
          have hcz75_0 : wc.cell? ⟨gb163, 0, none⟩ = some (.int .i64 t150) := (blk_cell BK163.out 0).trans rfl
          have hcz75_1 : wc.cell? ⟨gb163, 1, none⟩ = some (.int .i64 t151) := (blk_cell BK163.out 1).trans rfl
          have hcz75_2 : wc.cell? ⟨gb163, 2, none⟩ = some (.int .i64 t152) := (blk_cell BK163.out 2).trans rfl
          have hcz75_3 : wc.cell? ⟨gb163, 3, none⟩ = some (.int .i64 t153) := (blk_cell BK163.out 3).trans rfl
          have hcz75_4 : wc.cell? ⟨gb163, 4, none⟩ = some (.int .i64 t154) := (blk_cell BK163.out 4).trans rfl
          have hcz75_5 : wc.cell? ⟨gb163, 5, none⟩ = some (.int .i64 t155) := (blk_cell BK163.out 5).trans rfl
          have hcz75_6 : wc.cell? ⟨gb163, 6, none⟩ = some (.int .i64 t156) := (blk_cell BK163.out 6).trans rfl
          have hcz75_7 : wc.cell? ⟨gb163, 7, none⟩ = some (.int .i64 t157) := (blk_cell BK163.out 7).trans rfl
          have hcz75_8 : wc.cell? ⟨gb163, 8, none⟩ = some (.int .i64 t158) := (blk_cell BK163.out 8).trans rfl
          have hcz75_9 : wc.cell? ⟨gb163, 9, none⟩ = some (.int .i64 t159) := (blk_cell BK163.out 9).trans rfl
          have hcz75_10 : wc.cell? ⟨gb163, 10, none⟩ = some (.int .i64 t160) := (blk_cell BK163.out 10).trans rfl
          have hcz75_11 : wc.cell? ⟨gb163, 11, none⟩ = some (.int .i64 t161) := (blk_cell BK163.out 11).trans rfl
          have hfz75_0 := blk_frozen BK163.out 0
          have hfz75_1 := blk_frozen BK163.out 1
          have hfz75_2 := blk_frozen BK163.out 2
          have hfz75_3 := blk_frozen BK163.out 3
          have hfz75_4 := blk_frozen BK163.out 4
          have hfz75_5 := blk_frozen BK163.out 5
          have hfz75_6 := blk_frozen BK163.out 6
          have hfz75_7 := blk_frozen BK163.out 7
          have hfz75_8 := blk_frozen BK163.out 8
          have hfz75_9 := blk_frozen BK163.out 9
          have hfz75_10 := blk_frozen BK163.out 10
          have hfz75_11 := blk_frozen BK163.out 11
          go_upto_region 9 with (first | ((with_reducible refine gate_callee (f := 22) rfl ?_); refine goesL_ (some 93) rfl rfl Tryd.func22 (by kernel_rfl) rfl #[.agg #[.int .i64 t150, .int .i64 t151, .int .i64 t152, .int .i64 t153, .int .i64 t154, .int .i64 t155, .int .i64 t156, .int .i64 t157, .int .i64 t158, .int .i64 t159, .int .i64 t160, .int .i64 t161]] rfl (by (try simp only [List.map_toArray, List.map_cons, List.map_nil]); first | done | rfl | (simp only [List.length_drop, List.length_take]; rfl)) ?_; (with_reducible refine (ledger_Trial.calls kj55 t150 t151 t152 t153 t154 t155 t156 t157 t158 t159 t160 t161 t164 t165 t166 _ A71.out).mono ?_); rintro e w76 ⟨rfl, hb⟩; refine ⟨_, rfl, ?_⟩; have n0_ := Aside0.mk (blk_below (g := gb145) (o := .cells #[.int .i64 a0_0, .int .i64 a0_1, .int .i64 a0_2, .int .i64 a0_3, .int .i64 a0_4, .int .i64 a0_5, .int .i64 a0_6, .int .i64 a0_7, .int .i64 a0_8, .int .i64 a0_9, .int .i64 a0_10, .int .i64 a0_11] 43 (0, 0)) (by (with_reducible repeat (first | refine blk_drewN ?_ _ | refine blk_drew ?_ | refine blk_alloc ?_ _)); exact BK145.out) hb); have n1_ := Aside0.mk (blk_below (g := gb146) (o := .cells #[.int .i64 a1_0, .int .i64 a1_1, .int .i64 a1_2, .int .i64 a1_3, .int .i64 a1_4] 28 (0, 0)) (by (with_reducible repeat (first | refine blk_drewN ?_ _ | refine blk_drew ?_ | refine blk_alloc ?_ _)); exact BK146.out) hb); have n2_ := Aside0.mk (blk_below (g := gb163) (o := .cells #[.int .i64 t150, .int .i64 t151, .int .i64 t152, .int .i64 t153, .int .i64 t154, .int .i64 t155, .int .i64 t156, .int .i64 t157, .int .i64 t158, .int .i64 t159, .int .i64 t160, .int .i64 t161] 43 (0, 0)) (by (with_reducible repeat (first | refine blk_drewN ?_ _ | refine blk_drew ?_ | refine blk_alloc ?_ _)); exact BK163.out) hb); have n3_ := Aside0.mk (below_step (by repeat (first | (with_reducible first | exact HB.out | apply below_alloc | apply pw_below_drewN | apply below_drew1 | refine below_set ?_ (Aside0.out (by assumption))) | exact HB.out)) hb); clear BK145; clear BK146; clear BK163; clear HB; have BK145 := n0_; have BK146 := n1_; have BK163 := n2_; have HB := n3_; clear n0_ n1_ n2_ n3_; (try clear hb); (try clear hb2); (try clear hk); (try clear hi)))
          (try simp only [Act.put, List.setIfInBounds_toArray, List.set_cons_zero, List.set_cons_succ])
          go_cut [103] (fun v103 wc => ∃ (kq : Nat) (x103_71 : Bool), v103 = .bool x103_71 ∧ Aside0 (arrearslaw9_posted.j3 kq x103_71 a0_0 a0_1 a0_2 a0_3 a0_4 a0_5 a0_6 a0_7 a0_8 a0_9 a0_10 a0_11 a1_0 a1_1 a1_2 a1_3 a1_4 t150 t151 t152 t153 t154 t155 t156 t157 t158 t159 t160 t161 = some r) ∧ Aside0 (kq ≤ kj55) ∧ Aside0 (wc.heap[gb145]? = some (.cells #[.int .i64 a0_0, .int .i64 a0_1, .int .i64 a0_2, .int .i64 a0_3, .int .i64 a0_4, .int .i64 a0_5, .int .i64 a0_6, .int .i64 a0_7, .int .i64 a0_8, .int .i64 a0_9, .int .i64 a0_10, .int .i64 a0_11] 43 (0, 0))) ∧ Aside0 (wc.heap[gb146]? = some (.cells #[.int .i64 a1_0, .int .i64 a1_1, .int .i64 a1_2, .int .i64 a1_3, .int .i64 a1_4] 28 (0, 0))) ∧ Aside0 (wc.heap[gb163]? = some (.cells #[.int .i64 t150, .int .i64 t151, .int .i64 t152, .int .i64 t153, .int .i64 t154, .int .i64 t155, .int .i64 t156, .int .i64 t157, .int .i64 t158, .int .i64 t159, .int .i64 t160, .int .i64 t161] 43 (0, 0))) ∧ Aside0 (Below w.heap.size w wc))
          case first =>
           have H := HC72.out
           clear HC72
           by_cases c77 : t166 = true
           ·
            subst c77
            have H1 : (arrearslaw9_posted.j3 kj55 (t164 != t165) a0_0 a0_1 a0_2 a0_3 a0_4 a0_5 a0_6 a0_7 a0_8 a0_9 a0_10 a0_11 a1_0 a1_1 a1_2 a1_3 a1_4 t150 t151 t152 t153 t154 t155 t156 t157 t158 t159 t160 t161) = some r := by rw [if_pos rfl] at H; exact H
            clear H
            have H := H1
            clear H1
            have H' := Aside0.mk H
            clear H
            go_wp2
            go_meet
            case rel => exact ⟨_, ((t164 != t165)), (by first | rfl | (simp; done) | (simp [*]; done)), H', ⟨by have := HJ5.out; have := HJ33.out; have := HJ55.out; first | omega | exact Nat.le_refl _⟩, ⟨by (with_reducible repeat (first | refine blk_drewN ?_ _ | refine blk_drew ?_ | refine blk_alloc ?_ _)); exact BK145.out⟩, ⟨by (with_reducible repeat (first | refine blk_drewN ?_ _ | refine blk_drew ?_ | refine blk_alloc ?_ _)); exact BK146.out⟩, ⟨by (with_reducible repeat (first | refine blk_drewN ?_ _ | refine blk_drew ?_ | refine blk_alloc ?_ _)); exact BK163.out⟩, ⟨by repeat (first | (with_reducible first | exact HB.out | apply below_alloc | apply pw_below_drewN | apply below_drew1 | refine below_set ?_ (Aside0.out (by assumption))) | exact HB.out)⟩⟩
           ·
            replace c77 := Bool.eq_false_iff.mpr c77
            subst c77
            have H1 : (arrearslaw9_posted.j3 kj55 true a0_0 a0_1 a0_2 a0_3 a0_4 a0_5 a0_6 a0_7 a0_8 a0_9 a0_10 a0_11 a1_0 a1_1 a1_2 a1_3 a1_4 t150 t151 t152 t153 t154 t155 t156 t157 t158 t159 t160 t161) = some r := by rw [if_neg (show ¬ (false = true) by decide)] at H; exact H
            clear H
            have H := H1
            clear H1
            have H' := Aside0.mk H
            clear H
            go_wp2
            go_meet
            case rel => exact ⟨_, (true), (by first | rfl | (simp; done) | (simp [*]; done)), H', ⟨by have := HJ5.out; have := HJ33.out; have := HJ55.out; first | omega | exact Nat.le_refl _⟩, ⟨by (with_reducible repeat (first | refine blk_drewN ?_ _ | refine blk_drew ?_ | refine blk_alloc ?_ _)); exact BK145.out⟩, ⟨by (with_reducible repeat (first | refine blk_drewN ?_ _ | refine blk_drew ?_ | refine blk_alloc ?_ _)); exact BK146.out⟩, ⟨by (with_reducible repeat (first | refine blk_drewN ?_ _ | refine blk_drew ?_ | refine blk_alloc ?_ _)); exact BK163.out⟩, ⟨by repeat (first | (with_reducible first | exact HB.out | apply below_alloc | apply pw_below_drewN | apply below_drew1 | refine below_set ?_ (Aside0.out (by assumption))) | exact HB.out)⟩⟩
          case rest =>
           clear HC72
           (try clear c1); (try clear c2); (try clear p2 p2); (try clear c3); (try clear c4); (try clear c5); (try clear c6); (try clear p6 p6); (try clear c7); (try clear c15); (try clear c20); (try clear c21); (try clear c22); (try clear c27); (try clear c27b0); (try clear c27b1); (try clear c28); (try clear c29); (try clear c31); (try clear c33); (try clear c35); (try clear c35b0); (try clear c35b1); (try clear c36); (try clear c36b0); (try clear c36b1); (try clear c37); (try clear c38); (try clear c40); (try clear c43); (try clear c44); (try clear c46); (try clear c49); (try clear c50); (try clear c52); (try clear c55); (try clear c57); (try clear c57b0); (try clear c57b1); (try clear c58); (try clear c59); (try clear c61); (try clear c64); (try clear p64 p64); (try clear c65); (try clear c67); (try clear c70); (try clear c73); (try clear c74); (try clear c77); (try clear hcz30_0 hcz30_1 hcz30_10 hcz30_11 hcz30_2 hcz30_3 hcz30_4 hcz30_5 hcz30_6 hcz30_7 hcz30_8 hcz30_9 hfz30_0 hfz30_1 hfz30_10 hfz30_11 hfz30_2 hfz30_3 hfz30_4 hfz30_5 hfz30_6 hfz30_7 hfz30_8 hfz30_9); (try clear hcz32_0 hcz32_1 hcz32_10 hcz32_11 hcz32_2 hcz32_3 hcz32_4 hcz32_5 hcz32_6 hcz32_7 hcz32_8 hcz32_9 hfz32_0 hfz32_1 hfz32_10 hfz32_11 hfz32_2 hfz32_3 hfz32_4 hfz32_5 hfz32_6 hfz32_7 hfz32_8 hfz32_9); (try clear hcz39_0 hcz39_1 hcz39_10 hcz39_11 hcz39_2 hcz39_3 hcz39_4 hcz39_5 hcz39_6 hcz39_7 hcz39_8 hcz39_9 hfz39_0 hfz39_1 hfz39_10 hfz39_11 hfz39_2 hfz39_3 hfz39_4 hfz39_5 hfz39_6 hfz39_7 hfz39_8 hfz39_9); (try clear hcz41_0 hcz41_1 hcz41_10 hcz41_11 hcz41_2 hcz41_3 hcz41_4 hcz41_5 hcz41_6 hcz41_7 hcz41_8 hcz41_9 hfz41_0 hfz41_1 hfz41_10 hfz41_11 hfz41_2 hfz41_3 hfz41_4 hfz41_5 hfz41_6 hfz41_7 hfz41_8 hfz41_9); (try clear hcz42_0 hcz42_1 hcz42_2 hcz42_3 hcz42_4 hfz42_0 hfz42_1 hfz42_2 hfz42_3 hfz42_4); (try clear hcz45_0 hcz45_1 hcz45_10 hcz45_11 hcz45_2 hcz45_3 hcz45_4 hcz45_5 hcz45_6 hcz45_7 hcz45_8 hcz45_9 hfz45_0 hfz45_1 hfz45_10 hfz45_11 hfz45_2 hfz45_3 hfz45_4 hfz45_5 hfz45_6 hfz45_7 hfz45_8 hfz45_9); (try clear hcz47_0 hcz47_1 hcz47_10 hcz47_11 hcz47_2 hcz47_3 hcz47_4 hcz47_5 hcz47_6 hcz47_7 hcz47_8 hcz47_9 hfz47_0 hfz47_1 hfz47_10 hfz47_11 hfz47_2 hfz47_3 hfz47_4 hfz47_5 hfz47_6 hfz47_7 hfz47_8 hfz47_9); (try clear hcz48_0 hcz48_1 hcz48_2 hcz48_3 hcz48_4 hfz48_0 hfz48_1 hfz48_2 hfz48_3 hfz48_4); (try clear hcz51_0 hcz51_1 hcz51_10 hcz51_11 hcz51_2 hcz51_3 hcz51_4 hcz51_5 hcz51_6 hcz51_7 hcz51_8 hcz51_9 hfz51_0 hfz51_1 hfz51_10 hfz51_11 hfz51_2 hfz51_3 hfz51_4 hfz51_5 hfz51_6 hfz51_7 hfz51_8 hfz51_9); (try clear hcz53_0 hcz53_1 hcz53_10 hcz53_11 hcz53_2 hcz53_3 hcz53_4 hcz53_5 hcz53_6 hcz53_7 hcz53_8 hcz53_9 hfz53_0 hfz53_1 hfz53_10 hfz53_11 hfz53_2 hfz53_3 hfz53_4 hfz53_5 hfz53_6 hfz53_7 hfz53_8 hfz53_9); (try clear hcz54_0 hcz54_1 hcz54_2 hcz54_3 hcz54_4 hfz54_0 hfz54_1 hfz54_2 hfz54_3 hfz54_4); (try clear hcz60_0 hcz60_1 hcz60_10 hcz60_11 hcz60_2 hcz60_3 hcz60_4 hcz60_5 hcz60_6 hcz60_7 hcz60_8 hcz60_9 hfz60_0 hfz60_1 hfz60_10 hfz60_11 hfz60_2 hfz60_3 hfz60_4 hfz60_5 hfz60_6 hfz60_7 hfz60_8 hfz60_9); (try clear hcz62_0 hcz62_1 hcz62_10 hcz62_11 hcz62_2 hcz62_3 hcz62_4 hcz62_5 hcz62_6 hcz62_7 hcz62_8 hcz62_9 hfz62_0 hfz62_1 hfz62_10 hfz62_11 hfz62_2 hfz62_3 hfz62_4 hfz62_5 hfz62_6 hfz62_7 hfz62_8 hfz62_9); (try clear hcz63_0 hcz63_1 hcz63_2 hcz63_3 hcz63_4 hfz63_0 hfz63_1 hfz63_2 hfz63_3 hfz63_4); (try clear hcz66_0 hcz66_1 hcz66_10 hcz66_11 hcz66_2 hcz66_3 hcz66_4 hcz66_5 hcz66_6 hcz66_7 hcz66_8 hcz66_9 hfz66_0 hfz66_1 hfz66_10 hfz66_11 hfz66_2 hfz66_3 hfz66_4 hfz66_5 hfz66_6 hfz66_7 hfz66_8 hfz66_9); (try clear hcz68_0 hcz68_1 hcz68_10 hcz68_11 hcz68_2 hcz68_3 hcz68_4 hcz68_5 hcz68_6 hcz68_7 hcz68_8 hcz68_9 hfz68_0 hfz68_1 hfz68_10 hfz68_11 hfz68_2 hfz68_3 hfz68_4 hfz68_5 hfz68_6 hfz68_7 hfz68_8 hfz68_9); (try clear hcz69_0 hcz69_1 hcz69_2 hcz69_3 hcz69_4 hfz69_0 hfz69_1 hfz69_2 hfz69_3 hfz69_4); (try clear hcz75_0 hcz75_1 hcz75_10 hcz75_11 hcz75_2 hcz75_3 hcz75_4 hcz75_5 hcz75_6 hcz75_7 hcz75_8 hcz75_9 hfz75_0 hfz75_1 hfz75_10 hfz75_11 hfz75_2 hfz75_3 hfz75_4 hfz75_5 hfz75_6 hfz75_7 hfz75_8 hfz75_9)
           obtain ⟨kq, x103_71, rfl, HA, HJ71, BK145, BK146, BK163, HB⟩ := hcut
           cases kq with
           | zero => exact absurd HA.out (by simp [arrearslaw9_posted.j3])
           | succ kj71 =>
            have H := HA.out
            clear HA
            simp only [arrearslaw9_posted.j3] at H
            by_cases c78 : x103_71 = true
            ·
             subst c78
             have H1 : (none) = some r := by rw [if_pos rfl] at H; exact H
             clear H
             have H := H1
             clear H1
             exact absurd H (by simp)
            ·
             replace c78 := Bool.eq_false_iff.mpr c78
             subst c78
             have H1 : ((waterfall_Undo.f kj71 a1_0 a1_1 a1_2 a1_3 a1_4).bind fun t167 => ((ledger_Post.f t150 t151 t152 t153 t154 t155 t156 t157 t158 t159 t160 t161 t167).bind fun bt170 => (if bt170.2.2.2.2.2.2.2.2.2.2.2.2 = 0 then (arrearslaw9_posted.l0 kj71 0 a0_0 a0_1 a0_2 a0_3 a0_4 a0_5 a0_6 a0_7 a0_8 a0_9 a0_10 a0_11 bt170.1 bt170.2.1 bt170.2.2.1 bt170.2.2.2.1 bt170.2.2.2.2.1 bt170.2.2.2.2.2.1 bt170.2.2.2.2.2.2.1 bt170.2.2.2.2.2.2.2.1 bt170.2.2.2.2.2.2.2.2.1 bt170.2.2.2.2.2.2.2.2.2.1 bt170.2.2.2.2.2.2.2.2.2.2.1 bt170.2.2.2.2.2.2.2.2.2.2.2.1) else (none)))) = some r := by rw [if_neg (show ¬ (false = true) by decide)] at H; exact H
             clear H
             have H := H1
             clear H1
             replace H := Option.bind_eq_some_iff.mp H
             obtain ⟨t167, A790, H⟩ := H
             replace H : ((ledger_Post.f t150 t151 t152 t153 t154 t155 t156 t157 t158 t159 t160 t161 t167).bind fun bt170 => (if bt170.2.2.2.2.2.2.2.2.2.2.2.2 = 0 then (arrearslaw9_posted.l0 kj71 0 a0_0 a0_1 a0_2 a0_3 a0_4 a0_5 a0_6 a0_7 a0_8 a0_9 a0_10 a0_11 bt170.1 bt170.2.1 bt170.2.2.1 bt170.2.2.2.1 bt170.2.2.2.2.1 bt170.2.2.2.2.2.1 bt170.2.2.2.2.2.2.1 bt170.2.2.2.2.2.2.2.1 bt170.2.2.2.2.2.2.2.2.1 bt170.2.2.2.2.2.2.2.2.2.1 bt170.2.2.2.2.2.2.2.2.2.2.1 bt170.2.2.2.2.2.2.2.2.2.2.2.1) else (none))) = some r := H
             have A79 := Aside0.mk A790
             clear A790
             replace H := Option.bind_eq_some_iff.mp H
             obtain ⟨⟨t170, t171, t172, t173, t174, t175, t176, t177, t178, t179, t180, t181, t182⟩, A800, H⟩ := H
             replace H : (if t182 = 0 then (arrearslaw9_posted.l0 kj71 0 a0_0 a0_1 a0_2 a0_3 a0_4 a0_5 a0_6 a0_7 a0_8 a0_9 a0_10 a0_11 t170 t171 t172 t173 t174 t175 t176 t177 t178 t179 t180 t181) else (none)) = some r := H
             have A80 := Aside0.mk A800
             clear A800
             by_cases c81 : t182 = 0
             ·
              rw [if_pos c81] at H
              have c81b0 : (t182 == 0) = true := beq_iff_eq.mpr c81
              have c81b1 : (t182 != 0) = false := bne_eq_false_iff_eq.mpr c81
              clear c81
              have H' := Aside0.mk H
              clear H
              try go_wp2
              have n0_ := Aside0.mk (blk_drew BK145.out)
              have n1_ := Aside0.mk (blk_drew BK146.out)
              have n2_ := Aside0.mk (blk_drew BK163.out)
              have n3_ := Aside0.mk (below_drew1 HB.out)
              clear BK145
              clear BK146
              clear BK163
              clear HB
              have BK145 := n0_
              have BK146 := n1_
              have BK163 := n2_
              have HB := n3_
              clear n0_ n1_ n2_ n3_
              refine start_ (n := 10) (S := fun w' => w'.cell? ⟨gb163, 0, none⟩ = some (.int .i64 t150) ∧ w'.cell? ⟨gb163, 1, none⟩ = some (.int .i64 t151) ∧ w'.cell? ⟨gb163, 2, none⟩ = some (.int .i64 t152) ∧ w'.cell? ⟨gb163, 3, none⟩ = some (.int .i64 t153) ∧ w'.cell? ⟨gb163, 4, none⟩ = some (.int .i64 t154) ∧ w'.cell? ⟨gb163, 5, none⟩ = some (.int .i64 t155) ∧ w'.cell? ⟨gb163, 6, none⟩ = some (.int .i64 t156) ∧ w'.cell? ⟨gb163, 7, none⟩ = some (.int .i64 t157) ∧ w'.cell? ⟨gb163, 8, none⟩ = some (.int .i64 t158) ∧ w'.cell? ⟨gb163, 9, none⟩ = some (.int .i64 t159) ∧ w'.cell? ⟨gb163, 10, none⟩ = some (.int .i64 t160) ∧ w'.cell? ⟨gb163, 11, none⟩ = some (.int .i64 t161) ∧ w'.cell? ⟨gb146, 0, none⟩ = some (.int .i64 a1_0) ∧ w'.cell? ⟨gb146, 1, none⟩ = some (.int .i64 a1_1) ∧ w'.cell? ⟨gb146, 2, none⟩ = some (.int .i64 a1_2) ∧ w'.cell? ⟨gb146, 3, none⟩ = some (.int .i64 a1_3) ∧ w'.cell? ⟨gb146, 4, none⟩ = some (.int .i64 a1_4)) (ds := []) #[false, false, false, false, false, false, false, false, false, false] (by kernel_rfl) rfl rfl ⟨(blk_cell BK163.out 0).trans rfl, (blk_cell BK163.out 1).trans rfl, (blk_cell BK163.out 2).trans rfl, (blk_cell BK163.out 3).trans rfl, (blk_cell BK163.out 4).trans rfl, (blk_cell BK163.out 5).trans rfl, (blk_cell BK163.out 6).trans rfl, (blk_cell BK163.out 7).trans rfl, (blk_cell BK163.out 8).trans rfl, (blk_cell BK163.out 9).trans rfl, (blk_cell BK163.out 10).trans rfl, (blk_cell BK163.out 11).trans rfl, (blk_cell BK146.out 0).trans rfl, (blk_cell BK146.out 1).trans rfl, (blk_cell BK146.out 2).trans rfl, (blk_cell BK146.out 3).trans rfl, (blk_cell BK146.out 4).trans rfl⟩ (fun hHeld => ?_); refine with_tabW arrearslaw9_posted.tab11 arrearslaw9_posted.bits11 (fun HT_ HW_ => ?_)
              generalize wc.drew = w82 at BK145 BK146 BK163 HB hHeld ⊢
              refine take_ (i := 0) (N := some 105) (v := ?_) (a' := ?_) #[true, false, false, false, false, false, false, false, false, false] rfl rfl (take_ofW HT_.out HW_.out (by kernel_rfl)) (fun _ _ _ h => h) (Or.inl ⟨by rfl, ?_⟩) hHeld ?_ ?_
              rotate_left
              ·
               rintro w' ⟨s0, s1, s2, s3, s4, s5, s6, s7, s8, s9, s10, s11, s12, s13, s14, s15, s16⟩
               go_simp
               with_reducible rfl
              rotate_left
              ·
               simp only [Act.put, List.setIfInBounds_toArray, List.set_cons_zero, List.set_cons_succ, i64_w, i32_w]
               rfl
              refine take_ (i := 1) (N := some 106) (v := ?_) (a' := ?_) #[true, true, false, false, false, false, false, false, false, false] rfl rfl (take_ofW HT_.out HW_.out (by kernel_rfl)) (fun _ _ _ h => h) (Or.inl ⟨by rfl, ?_⟩) hHeld ?_ ?_
              rotate_left
              ·
               rintro w' ⟨s0, s1, s2, s3, s4, s5, s6, s7, s8, s9, s10, s11, s12, s13, s14, s15, s16⟩
               go_simp
               with_reducible rfl
              rotate_left
              ·
               simp only [Act.put, List.setIfInBounds_toArray, List.set_cons_zero, List.set_cons_succ, i64_w, i32_w]
               rfl
              refine join_ (σ := Value × Nat) 2 #[true, true, true, true, true, true, true, true, false, false] (fun s_ => [(107, s_.1), (108, .tuple #[.agg #[.int .i64 t170, .int .i64 t171, .int .i64 t172, .int .i64 t173, .int .i64 t174, .int .i64 t175, .int .i64 t176, .int .i64 t177, .int .i64 t178, .int .i64 t179, .int .i64 t180, .int .i64 t181], .int .i64 t182]), (12, .pointer (some ⟨s_.2, 0, none⟩)), (104, .tuple #[.agg #[.int .i64 t170, .int .i64 t171, .int .i64 t172, .int .i64 t173, .int .i64 t174, .int .i64 t175, .int .i64 t176, .int .i64 t177, .int .i64 t178, .int .i64 t179, .int .i64 t180, .int .i64 t181], .int .i64 t182]), (109, .agg #[.int .i64 t170, .int .i64 t171, .int .i64 t172, .int .i64 t173, .int .i64 t174, .int .i64 t175, .int .i64 t176, .int .i64 t177, .int .i64 t178, .int .i64 t179, .int .i64 t180, .int .i64 t181]), (110, .int .i64 t182)]) (fun s_ w' => (w'.cell? ⟨gb163, 0, none⟩ = some (.int .i64 t150) ∧ w'.cell? ⟨gb163, 1, none⟩ = some (.int .i64 t151) ∧ w'.cell? ⟨gb163, 2, none⟩ = some (.int .i64 t152) ∧ w'.cell? ⟨gb163, 3, none⟩ = some (.int .i64 t153) ∧ w'.cell? ⟨gb163, 4, none⟩ = some (.int .i64 t154) ∧ w'.cell? ⟨gb163, 5, none⟩ = some (.int .i64 t155) ∧ w'.cell? ⟨gb163, 6, none⟩ = some (.int .i64 t156) ∧ w'.cell? ⟨gb163, 7, none⟩ = some (.int .i64 t157) ∧ w'.cell? ⟨gb163, 8, none⟩ = some (.int .i64 t158) ∧ w'.cell? ⟨gb163, 9, none⟩ = some (.int .i64 t159) ∧ w'.cell? ⟨gb163, 10, none⟩ = some (.int .i64 t160) ∧ w'.cell? ⟨gb163, 11, none⟩ = some (.int .i64 t161) ∧ w'.cell? ⟨gb146, 0, none⟩ = some (.int .i64 a1_0) ∧ w'.cell? ⟨gb146, 1, none⟩ = some (.int .i64 a1_1) ∧ w'.cell? ⟨gb146, 2, none⟩ = some (.int .i64 a1_2) ∧ w'.cell? ⟨gb146, 3, none⟩ = some (.int .i64 a1_3) ∧ w'.cell? ⟨gb146, 4, none⟩ = some (.int .i64 a1_4)) ∧ (Kd.R k63 63 w' w.heap.size (fun _ => True) s_.1 t167) ∧ (w'.heap[gb145]? = some (.cells #[.int .i64 a0_0, .int .i64 a0_1, .int .i64 a0_2, .int .i64 a0_3, .int .i64 a0_4, .int .i64 a0_5, .int .i64 a0_6, .int .i64 a0_7, .int .i64 a0_8, .int .i64 a0_9, .int .i64 a0_10, .int .i64 a0_11] 43 (0, 0))) ∧ (w'.heap[gb146]? = some (.cells #[.int .i64 a1_0, .int .i64 a1_1, .int .i64 a1_2, .int .i64 a1_3, .int .i64 a1_4] 28 (0, 0))) ∧ (w'.heap[gb163]? = some (.cells #[.int .i64 t150, .int .i64 t151, .int .i64 t152, .int .i64 t153, .int .i64 t154, .int .i64 t155, .int .i64 t156, .int .i64 t157, .int .i64 t158, .int .i64 t159, .int .i64 t160, .int .i64 t161] 43 (0, 0))) ∧ (w'.heap[s_.2]? = some (.cells #[.int .i64 0, .int .i64 0, .int .i64 0, .int .i64 0, .int .i64 0, .int .i64 0, .int .i64 0, .int .i64 0, .int .i64 0, .int .i64 0, .int .i64 0, .int .i64 0] 43 (0, 0))) ∧ (w.heap.size ≤ s_.2) ∧ (w.heap.size ≤ s_.2) ∧ (gb145 ≠ s_.2) ∧ (s_.2 ≠ gb145) ∧ (gb146 ≠ s_.2) ∧ (s_.2 ≠ gb146) ∧ (gb163 ≠ s_.2) ∧ (s_.2 ≠ gb163) ∧ (Below w.heap.size w w')) ?_ ?_
              rotate_left
              ·
               intro hCont
               refine two_ (i := 2) (j := 7) (Ni := some 107) (Nj := some 12) #[true, true, true, false, false, false, false, false, false, false] #[true, true, false, false, false, false, false, true, false, false] rfl rfl rfl rfl (two_of HT_.out (by kernel_rfl)) (by decide) (by decide) (fun K hK => ?_) (fun K hK => ?_)
               ·
                skip
                refine goes_ Tryd.func23 (by kernel_rfl) rfl #[.agg #[.int .i64 a1_0, .int .i64 a1_1, .int .i64 a1_2, .int .i64 a1_3, .int .i64 a1_4]] (by rfl) rfl rfl (by (try simp only [List.map_toArray, List.map_cons, List.map_nil]); first | done | rfl | (simp only [List.length_drop, List.length_take]; rfl)) ?_
                with_reducible refine (waterfall_Undo.calls kj71 a1_0 a1_1 a1_2 a1_3 a1_4 t167 _ A79.out).mono ?_
                rintro e w83 ⟨v168, rfl, ho0, hb⟩
                refine ⟨_, rfl, ?_⟩
                have n0_ := Aside0.mk (Kd.R_lower ho0 (below_size (by repeat (first | (with_reducible first | exact HB.out | apply below_alloc | apply pw_below_drewN | apply below_drew1 | refine below_set ?_ (Aside0.out (by assumption))) | exact HB.out))))
                have n1_ := Aside0.mk (blk_below (g := gb145) (o := .cells #[.int .i64 a0_0, .int .i64 a0_1, .int .i64 a0_2, .int .i64 a0_3, .int .i64 a0_4, .int .i64 a0_5, .int .i64 a0_6, .int .i64 a0_7, .int .i64 a0_8, .int .i64 a0_9, .int .i64 a0_10, .int .i64 a0_11] 43 (0, 0)) (by (with_reducible repeat (first | refine blk_drewN ?_ _ | refine blk_drew ?_ | refine blk_alloc ?_ _)); exact BK145.out) hb)
                have n2_ := Aside0.mk (blk_below (g := gb146) (o := .cells #[.int .i64 a1_0, .int .i64 a1_1, .int .i64 a1_2, .int .i64 a1_3, .int .i64 a1_4] 28 (0, 0)) (by (with_reducible repeat (first | refine blk_drewN ?_ _ | refine blk_drew ?_ | refine blk_alloc ?_ _)); exact BK146.out) hb)
                have n3_ := Aside0.mk (blk_below (g := gb163) (o := .cells #[.int .i64 t150, .int .i64 t151, .int .i64 t152, .int .i64 t153, .int .i64 t154, .int .i64 t155, .int .i64 t156, .int .i64 t157, .int .i64 t158, .int .i64 t159, .int .i64 t160, .int .i64 t161] 43 (0, 0)) (by (with_reducible repeat (first | refine blk_drewN ?_ _ | refine blk_drew ?_ | refine blk_alloc ?_ _)); exact BK163.out) hb)
                have n4_ := Aside0.mk (below_step (by repeat (first | (with_reducible first | exact HB.out | apply below_alloc | apply pw_below_drewN | apply below_drew1 | refine below_set ?_ (Aside0.out (by assumption))) | exact HB.out)) hb)
                clear BK145
                clear BK146
                clear BK163
                clear HB
                have HO169 := n0_
                have BK145 := n1_
                have BK146 := n2_
                have BK163 := n3_
                have HB := n4_
                clear n0_ n1_ n2_ n3_ n4_
                (try clear hb)
                (try clear hb2)
                (try clear hk)
                (try clear hi)
                (try clear ho0)
                obtain ⟨Ao84, co84, eo84⟩ := Kd.R_slice HO169.out
                (first | subst eo84 | (injection eo84 with f1_ f2_ f3_; have f4_ := f1_.symm; have f5_ := f3_.symm; clear f1_ f2_ f3_; subst f4_; subst f5_))
                refine hK.out _ _ ⟨(blk_cell BK163.out 0).trans rfl, (blk_cell BK163.out 1).trans rfl, (blk_cell BK163.out 2).trans rfl, (blk_cell BK163.out 3).trans rfl, (blk_cell BK163.out 4).trans rfl, (blk_cell BK163.out 5).trans rfl, (blk_cell BK163.out 6).trans rfl, (blk_cell BK163.out 7).trans rfl, (blk_cell BK163.out 8).trans rfl, (blk_cell BK163.out 9).trans rfl, (blk_cell BK163.out 10).trans rfl, (blk_cell BK163.out 11).trans rfl, (blk_cell BK146.out 0).trans rfl, (blk_cell BK146.out 1).trans rfl, (blk_cell BK146.out 2).trans rfl, (blk_cell BK146.out 3).trans rfl, (blk_cell BK146.out 4).trans rfl⟩ (fun hHeld => ?_)
                clear hK K
                refine norm_ (a' := ?_) ?_ ?_
                rotate_left
                ·
                 show Act.put _ (some 107) _ = _
                 simp only [Act.put, List.setIfInBounds_toArray, List.set_cons_zero, List.set_cons_succ, i64_w, i32_w]
                 rfl
                refine two_ (i := 3) (j := 7) (Ni := some 108) (Nj := some 12) #[true, true, true, true, false, false, false, false, false, false] #[true, true, true, false, false, false, false, true, false, false] rfl rfl rfl rfl (two_of HT_.out (by kernel_rfl)) (by decide) (by decide) (fun K hK => ?_) (fun K hK => ?_)
                ·
                 skip
                 refine goes_ Tryd.func20 (by kernel_rfl) rfl #[.agg #[.int .i64 t150, .int .i64 t151, .int .i64 t152, .int .i64 t153, .int .i64 t154, .int .i64 t155, .int .i64 t156, .int .i64 t157, .int .i64 t158, .int .i64 t159, .int .i64 t160, .int .i64 t161], .slice Ao84 t167.length co84] (by rfl) rfl rfl (by (try simp only [List.map_toArray, List.map_cons, List.map_nil]); first | done | rfl | (simp only [List.length_drop, List.length_take]; rfl)) ?_
                 with_reducible refine (ledger_Post.calls t150 t151 t152 t153 t154 t155 t156 t157 t158 t159 t160 t161 _ _ t167 t170 t171 t172 t173 t174 t175 t176 t177 t178 t179 t180 t181 t182 _ ?side1 ?side2 ?sideL A80.out).mono ?_; (case sideL => exact laid_at HL0_.out (by repeat (first | (with_reducible first | exact HB.out | apply below_alloc | apply pw_below_drewN | apply below_drew1 | refine below_set ?_ (Aside0.out (by assumption))) | exact HB.out | exact Below.refl _ _ | exact Drawn0.below (Drawn0.refl _))))
                 (case side1 => repeat (first | exact (Kd.R_reads' HO169.out).2.2 | (with_reducible refine Kd.C_alloc ?_ _) | (with_reducible refine Kd.C_drewN ?_ _) | (with_reducible refine Kd.C_drew ?_)))
                 (case side2 => exact (Kd.R_reads' HO169.out).2.1)
                 rintro e w85 ⟨rfl, hb⟩
                 refine ⟨_, rfl, ?_⟩
                 have n0_ := Aside0.mk (Kd.R_below (by (with_reducible repeat (first | apply Kd.R_alloc | apply Kd.R_drewN | apply Kd.R_drew)); exact HO169.out) hb)
                 have n1_ := Aside0.mk (blk_below (g := gb145) (o := .cells #[.int .i64 a0_0, .int .i64 a0_1, .int .i64 a0_2, .int .i64 a0_3, .int .i64 a0_4, .int .i64 a0_5, .int .i64 a0_6, .int .i64 a0_7, .int .i64 a0_8, .int .i64 a0_9, .int .i64 a0_10, .int .i64 a0_11] 43 (0, 0)) (by (with_reducible repeat (first | refine blk_drewN ?_ _ | refine blk_drew ?_ | refine blk_alloc ?_ _)); exact BK145.out) hb)
                 have n2_ := Aside0.mk (blk_below (g := gb146) (o := .cells #[.int .i64 a1_0, .int .i64 a1_1, .int .i64 a1_2, .int .i64 a1_3, .int .i64 a1_4] 28 (0, 0)) (by (with_reducible repeat (first | refine blk_drewN ?_ _ | refine blk_drew ?_ | refine blk_alloc ?_ _)); exact BK146.out) hb)
                 have n3_ := Aside0.mk (blk_below (g := gb163) (o := .cells #[.int .i64 t150, .int .i64 t151, .int .i64 t152, .int .i64 t153, .int .i64 t154, .int .i64 t155, .int .i64 t156, .int .i64 t157, .int .i64 t158, .int .i64 t159, .int .i64 t160, .int .i64 t161] 43 (0, 0)) (by (with_reducible repeat (first | refine blk_drewN ?_ _ | refine blk_drew ?_ | refine blk_alloc ?_ _)); exact BK163.out) hb)
                 have n4_ := Aside0.mk (below_step (by repeat (first | (with_reducible first | exact HB.out | apply below_alloc | apply pw_below_drewN | apply below_drew1 | refine below_set ?_ (Aside0.out (by assumption))) | exact HB.out)) hb)
                 clear HO169
                 clear BK145
                 clear BK146
                 clear BK163
                 clear HB
                 have HO169 := n0_
                 have BK145 := n1_
                 have BK146 := n2_
                 have BK163 := n3_
                 have HB := n4_
                 clear n0_ n1_ n2_ n3_ n4_
                 (try clear hb)
                 (try clear hb2)
                 (try clear hk)
                 (try clear hi)
                 refine hK.out _ _ ⟨(blk_cell BK163.out 0).trans rfl, (blk_cell BK163.out 1).trans rfl, (blk_cell BK163.out 2).trans rfl, (blk_cell BK163.out 3).trans rfl, (blk_cell BK163.out 4).trans rfl, (blk_cell BK163.out 5).trans rfl, (blk_cell BK163.out 6).trans rfl, (blk_cell BK163.out 7).trans rfl, (blk_cell BK163.out 8).trans rfl, (blk_cell BK163.out 9).trans rfl, (blk_cell BK163.out 10).trans rfl, (blk_cell BK163.out 11).trans rfl, (blk_cell BK146.out 0).trans rfl, (blk_cell BK146.out 1).trans rfl, (blk_cell BK146.out 2).trans rfl, (blk_cell BK146.out 3).trans rfl, (blk_cell BK146.out 4).trans rfl⟩ (fun hHeld => ?_)
                 clear hK K
                 refine norm_ (a' := ?_) ?_ ?_
                 rotate_left
                 ·
                  show Act.put _ (some 108) _ = _
                  simp only [Act.put, List.setIfInBounds_toArray, List.set_cons_zero, List.set_cons_succ, i64_w, i32_w]
                  rfl
                 refine pure_ (i := 4) (N := some 104) (v := ?_) (a' := ?_) #[true, true, true, true, true, false, false, false, false, false] rfl rfl (any_of HT_.out (by kernel_rfl)) (fun _ _ _ h => h) (Or.inl ⟨by rfl, ?_⟩) ?_ ?_
                 rotate_left
                 ·
                  intro w'
                  go_simp
                  with_reducible rfl
                 rotate_left
                 ·
                  simp only [Act.put, List.setIfInBounds_toArray, List.set_cons_zero, List.set_cons_succ, i64_w, i32_w]
                  rfl
                 refine pure_ (i := 5) (N := some 109) (v := ?_) (a' := ?_) #[true, true, true, true, true, true, false, false, false, false] rfl rfl (any_of HT_.out (by kernel_rfl)) (fun _ _ _ h => h) (Or.inl ⟨by rfl, ?_⟩) ?_ ?_
                 rotate_left
                 ·
                  intro w'
                  go_simp
                  with_reducible rfl
                 rotate_left
                 ·
                  simp only [Act.put, List.setIfInBounds_toArray, List.set_cons_zero, List.set_cons_succ, i64_w, i32_w]
                  rfl
                 refine pure_ (i := 6) (N := some 110) (v := ?_) (a' := ?_) #[true, true, true, true, true, true, true, false, false, false] rfl rfl (any_of HT_.out (by kernel_rfl)) (fun _ _ _ h => h) (Or.inl ⟨by rfl, ?_⟩) ?_ ?_
                 rotate_left
                 ·
                  intro w'
                  go_simp
                  with_reducible rfl
                 rotate_left
                 ·
                  simp only [Act.put, List.setIfInBounds_toArray, List.set_cons_zero, List.set_cons_succ, i64_w, i32_w]
                  rfl
                 refine one_ (i := 7) (N := some 12) #[true, true, true, true, true, true, true, true, false, false] rfl rfl (one_of HT_.out (by kernel_rfl)) (by decide) (fun K hK => ?_)
                 refine box_step ?hg (N := 12) ?hd (cs := #[.int .i64 0, .int .i64 0, .int .i64 0, .int .i64 0, .int .i64 0, .int .i64 0, .int .i64 0, .int .i64 0, .int .i64 0, .int .i64 0, .int .i64 0, .int .i64 0]) (t := 43) ?hr ?_; (case hd => rfl); (case hg => rfl); (case hr => first | (go_simp; done) | (go_simp; rfl))
                 intro gb183 hg w86 hbox hb
                 have n0_ := Aside0.mk (Kd.R_below (by (with_reducible repeat (first | apply Kd.R_alloc | apply Kd.R_drewN | apply Kd.R_drew)); exact HO169.out) hb)
                 have n1_ := Aside0.mk (blk_below (g := gb145) (o := .cells #[.int .i64 a0_0, .int .i64 a0_1, .int .i64 a0_2, .int .i64 a0_3, .int .i64 a0_4, .int .i64 a0_5, .int .i64 a0_6, .int .i64 a0_7, .int .i64 a0_8, .int .i64 a0_9, .int .i64 a0_10, .int .i64 a0_11] 43 (0, 0)) (by (with_reducible repeat (first | refine blk_drewN ?_ _ | refine blk_drew ?_ | refine blk_alloc ?_ _)); exact BK145.out) hb)
                 have n2_ := Aside0.mk (blk_below (g := gb146) (o := .cells #[.int .i64 a1_0, .int .i64 a1_1, .int .i64 a1_2, .int .i64 a1_3, .int .i64 a1_4] 28 (0, 0)) (by (with_reducible repeat (first | refine blk_drewN ?_ _ | refine blk_drew ?_ | refine blk_alloc ?_ _)); exact BK146.out) hb)
                 have n3_ := Aside0.mk (blk_below (g := gb163) (o := .cells #[.int .i64 t150, .int .i64 t151, .int .i64 t152, .int .i64 t153, .int .i64 t154, .int .i64 t155, .int .i64 t156, .int .i64 t157, .int .i64 t158, .int .i64 t159, .int .i64 t160, .int .i64 t161] 43 (0, 0)) (by (with_reducible repeat (first | refine blk_drewN ?_ _ | refine blk_drew ?_ | refine blk_alloc ?_ _)); exact BK163.out) hb)
                 have n4_ := Aside0.mk (below_step (by repeat (first | (with_reducible first | exact HB.out | apply below_alloc | apply pw_below_drewN | apply below_drew1 | refine below_set ?_ (Aside0.out (by assumption))) | exact HB.out)) hb)
                 have n5_ := Aside0.mk (hbox)
                 have n6_ := Aside0.mk ((by rw [hg]; exact (below_size (by repeat (first | (with_reducible first | exact HB.out | apply below_alloc | apply pw_below_drewN | apply below_drew1 | refine below_set ?_ (Aside0.out (by assumption))) | exact HB.out))) : w.heap.size ≤ gb183))
                 have n7_ := Aside0.mk ((by rw [hg]; exact (below_size (by repeat (first | (with_reducible first | exact HB.out | apply below_alloc | apply pw_below_drewN | apply below_drew1 | refine below_set ?_ (Aside0.out (by assumption))) | exact HB.out))) : w.heap.size ≤ gb183))
                 have n8_ := Aside0.mk ((by rw [hg]; exact Nat.ne_of_lt (blk_lt (g := gb145) (o := .cells #[.int .i64 a0_0, .int .i64 a0_1, .int .i64 a0_2, .int .i64 a0_3, .int .i64 a0_4, .int .i64 a0_5, .int .i64 a0_6, .int .i64 a0_7, .int .i64 a0_8, .int .i64 a0_9, .int .i64 a0_10, .int .i64 a0_11] 43 (0, 0)) (by (with_reducible repeat (first | refine blk_drewN ?_ _ | refine blk_drew ?_ | refine blk_alloc ?_ _)); exact BK145.out)) : gb145 ≠ gb183))
                 have n9_ := Aside0.mk ((by rw [hg]; exact Nat.ne_of_gt (blk_lt (g := gb145) (o := .cells #[.int .i64 a0_0, .int .i64 a0_1, .int .i64 a0_2, .int .i64 a0_3, .int .i64 a0_4, .int .i64 a0_5, .int .i64 a0_6, .int .i64 a0_7, .int .i64 a0_8, .int .i64 a0_9, .int .i64 a0_10, .int .i64 a0_11] 43 (0, 0)) (by (with_reducible repeat (first | refine blk_drewN ?_ _ | refine blk_drew ?_ | refine blk_alloc ?_ _)); exact BK145.out)) : gb183 ≠ gb145))
                 have n10_ := Aside0.mk ((by rw [hg]; exact Nat.ne_of_lt (blk_lt (g := gb146) (o := .cells #[.int .i64 a1_0, .int .i64 a1_1, .int .i64 a1_2, .int .i64 a1_3, .int .i64 a1_4] 28 (0, 0)) (by (with_reducible repeat (first | refine blk_drewN ?_ _ | refine blk_drew ?_ | refine blk_alloc ?_ _)); exact BK146.out)) : gb146 ≠ gb183))
                 have n11_ := Aside0.mk ((by rw [hg]; exact Nat.ne_of_gt (blk_lt (g := gb146) (o := .cells #[.int .i64 a1_0, .int .i64 a1_1, .int .i64 a1_2, .int .i64 a1_3, .int .i64 a1_4] 28 (0, 0)) (by (with_reducible repeat (first | refine blk_drewN ?_ _ | refine blk_drew ?_ | refine blk_alloc ?_ _)); exact BK146.out)) : gb183 ≠ gb146))
                 have n12_ := Aside0.mk ((by rw [hg]; exact Nat.ne_of_lt (blk_lt (g := gb163) (o := .cells #[.int .i64 t150, .int .i64 t151, .int .i64 t152, .int .i64 t153, .int .i64 t154, .int .i64 t155, .int .i64 t156, .int .i64 t157, .int .i64 t158, .int .i64 t159, .int .i64 t160, .int .i64 t161] 43 (0, 0)) (by (with_reducible repeat (first | refine blk_drewN ?_ _ | refine blk_drew ?_ | refine blk_alloc ?_ _)); exact BK163.out)) : gb163 ≠ gb183))
                 have n13_ := Aside0.mk ((by rw [hg]; exact Nat.ne_of_gt (blk_lt (g := gb163) (o := .cells #[.int .i64 t150, .int .i64 t151, .int .i64 t152, .int .i64 t153, .int .i64 t154, .int .i64 t155, .int .i64 t156, .int .i64 t157, .int .i64 t158, .int .i64 t159, .int .i64 t160, .int .i64 t161] 43 (0, 0)) (by (with_reducible repeat (first | refine blk_drewN ?_ _ | refine blk_drew ?_ | refine blk_alloc ?_ _)); exact BK163.out)) : gb183 ≠ gb163))
                 clear HO169
                 clear BK145
                 clear BK146
                 clear BK163
                 clear HB
                 have HO169 := n0_
                 have BK145 := n1_
                 have BK146 := n2_
                 have BK163 := n3_
                 have HB := n4_
                 have BK183 := n5_
                 have GW183 := n6_
                 have GE183 := n7_
                 have NB145_183 := n8_
                 have NB183_145 := n9_
                 have NB146_183 := n10_
                 have NB183_146 := n11_
                 have NB163_183 := n12_
                 have NB183_163 := n13_
                 clear n0_ n1_ n2_ n3_ n4_ n5_ n6_ n7_ n8_ n9_ n10_ n11_ n12_ n13_
                 clear hb hbox hg
                 refine hK.out _ _ ⟨(blk_cell BK163.out 0).trans rfl, (blk_cell BK163.out 1).trans rfl, (blk_cell BK163.out 2).trans rfl, (blk_cell BK163.out 3).trans rfl, (blk_cell BK163.out 4).trans rfl, (blk_cell BK163.out 5).trans rfl, (blk_cell BK163.out 6).trans rfl, (blk_cell BK163.out 7).trans rfl, (blk_cell BK163.out 8).trans rfl, (blk_cell BK163.out 9).trans rfl, (blk_cell BK163.out 10).trans rfl, (blk_cell BK163.out 11).trans rfl, (blk_cell BK146.out 0).trans rfl, (blk_cell BK146.out 1).trans rfl, (blk_cell BK146.out 2).trans rfl, (blk_cell BK146.out 3).trans rfl, (blk_cell BK146.out 4).trans rfl⟩ (fun hHeld => ?_)
                 clear hK K
                 refine norm_ (a' := ?_) ?_ ?_
                 rotate_left
                 ·
                  show Act.put _ (some 12) _ = _
                  simp only [Act.put, List.setIfInBounds_toArray, List.set_cons_zero, List.set_cons_succ, i64_w, i32_w]
                  rfl
                 exact norm_ (by simp only [putAll, Act.put, List.setIfInBounds_toArray, List.set_cons_zero, List.set_cons_succ]) (hCont (.slice Ao84 t167.length co84, gb183) _ ⟨hHeld, (by (with_reducible repeat (first | apply Kd.R_alloc | apply Kd.R_drewN | apply Kd.R_drew)); exact HO169.out), (by (with_reducible repeat (first | refine blk_drewN ?_ _ | refine blk_drew ?_ | refine blk_alloc ?_ _)); exact BK145.out), (by (with_reducible repeat (first | refine blk_drewN ?_ _ | refine blk_drew ?_ | refine blk_alloc ?_ _)); exact BK146.out), (by (with_reducible repeat (first | refine blk_drewN ?_ _ | refine blk_drew ?_ | refine blk_alloc ?_ _)); exact BK163.out), (by (with_reducible repeat (first | refine blk_drewN ?_ _ | refine blk_drew ?_ | refine blk_alloc ?_ _)); exact BK183.out), GW183.out, GE183.out, NB145_183.out, NB183_145.out, NB146_183.out, NB183_146.out, NB163_183.out, NB183_163.out, (by repeat (first | (with_reducible first | exact HB.out | apply below_alloc | apply pw_below_drewN | apply below_drew1 | refine below_set ?_ (Aside0.out (by assumption))) | exact HB.out))⟩)
                ·
                 skip
                 refine box_step ?hg (N := 12) ?hd (cs := #[.int .i64 0, .int .i64 0, .int .i64 0, .int .i64 0, .int .i64 0, .int .i64 0, .int .i64 0, .int .i64 0, .int .i64 0, .int .i64 0, .int .i64 0, .int .i64 0]) (t := 43) ?hr ?_; (case hd => rfl); (case hg => rfl); (case hr => first | (go_simp; done) | (go_simp; rfl))
                 intro gb183 hg w84 hbox hb
                 have n0_ := Aside0.mk (Kd.R_below (by (with_reducible repeat (first | apply Kd.R_alloc | apply Kd.R_drewN | apply Kd.R_drew)); exact HO169.out) hb)
                 have n1_ := Aside0.mk (blk_below (g := gb145) (o := .cells #[.int .i64 a0_0, .int .i64 a0_1, .int .i64 a0_2, .int .i64 a0_3, .int .i64 a0_4, .int .i64 a0_5, .int .i64 a0_6, .int .i64 a0_7, .int .i64 a0_8, .int .i64 a0_9, .int .i64 a0_10, .int .i64 a0_11] 43 (0, 0)) (by (with_reducible repeat (first | refine blk_drewN ?_ _ | refine blk_drew ?_ | refine blk_alloc ?_ _)); exact BK145.out) hb)
                 have n2_ := Aside0.mk (blk_below (g := gb146) (o := .cells #[.int .i64 a1_0, .int .i64 a1_1, .int .i64 a1_2, .int .i64 a1_3, .int .i64 a1_4] 28 (0, 0)) (by (with_reducible repeat (first | refine blk_drewN ?_ _ | refine blk_drew ?_ | refine blk_alloc ?_ _)); exact BK146.out) hb)
                 have n3_ := Aside0.mk (blk_below (g := gb163) (o := .cells #[.int .i64 t150, .int .i64 t151, .int .i64 t152, .int .i64 t153, .int .i64 t154, .int .i64 t155, .int .i64 t156, .int .i64 t157, .int .i64 t158, .int .i64 t159, .int .i64 t160, .int .i64 t161] 43 (0, 0)) (by (with_reducible repeat (first | refine blk_drewN ?_ _ | refine blk_drew ?_ | refine blk_alloc ?_ _)); exact BK163.out) hb)
                 have n4_ := Aside0.mk (below_step (by repeat (first | (with_reducible first | exact HB.out | apply below_alloc | apply pw_below_drewN | apply below_drew1 | refine below_set ?_ (Aside0.out (by assumption))) | exact HB.out)) hb)
                 have n5_ := Aside0.mk (hbox)
                 have n6_ := Aside0.mk ((by rw [hg]; exact (below_size (by repeat (first | (with_reducible first | exact HB.out | apply below_alloc | apply pw_below_drewN | apply below_drew1 | refine below_set ?_ (Aside0.out (by assumption))) | exact HB.out))) : w.heap.size ≤ gb183))
                 have n7_ := Aside0.mk ((by rw [hg]; exact (below_size (by repeat (first | (with_reducible first | exact HB.out | apply below_alloc | apply pw_below_drewN | apply below_drew1 | refine below_set ?_ (Aside0.out (by assumption))) | exact HB.out))) : w.heap.size ≤ gb183))
                 have n8_ := Aside0.mk ((by rw [hg]; exact Nat.ne_of_lt (blk_lt (g := gb145) (o := .cells #[.int .i64 a0_0, .int .i64 a0_1, .int .i64 a0_2, .int .i64 a0_3, .int .i64 a0_4, .int .i64 a0_5, .int .i64 a0_6, .int .i64 a0_7, .int .i64 a0_8, .int .i64 a0_9, .int .i64 a0_10, .int .i64 a0_11] 43 (0, 0)) (by (with_reducible repeat (first | refine blk_drewN ?_ _ | refine blk_drew ?_ | refine blk_alloc ?_ _)); exact BK145.out)) : gb145 ≠ gb183))
                 have n9_ := Aside0.mk ((by rw [hg]; exact Nat.ne_of_gt (blk_lt (g := gb145) (o := .cells #[.int .i64 a0_0, .int .i64 a0_1, .int .i64 a0_2, .int .i64 a0_3, .int .i64 a0_4, .int .i64 a0_5, .int .i64 a0_6, .int .i64 a0_7, .int .i64 a0_8, .int .i64 a0_9, .int .i64 a0_10, .int .i64 a0_11] 43 (0, 0)) (by (with_reducible repeat (first | refine blk_drewN ?_ _ | refine blk_drew ?_ | refine blk_alloc ?_ _)); exact BK145.out)) : gb183 ≠ gb145))
                 have n10_ := Aside0.mk ((by rw [hg]; exact Nat.ne_of_lt (blk_lt (g := gb146) (o := .cells #[.int .i64 a1_0, .int .i64 a1_1, .int .i64 a1_2, .int .i64 a1_3, .int .i64 a1_4] 28 (0, 0)) (by (with_reducible repeat (first | refine blk_drewN ?_ _ | refine blk_drew ?_ | refine blk_alloc ?_ _)); exact BK146.out)) : gb146 ≠ gb183))
                 have n11_ := Aside0.mk ((by rw [hg]; exact Nat.ne_of_gt (blk_lt (g := gb146) (o := .cells #[.int .i64 a1_0, .int .i64 a1_1, .int .i64 a1_2, .int .i64 a1_3, .int .i64 a1_4] 28 (0, 0)) (by (with_reducible repeat (first | refine blk_drewN ?_ _ | refine blk_drew ?_ | refine blk_alloc ?_ _)); exact BK146.out)) : gb183 ≠ gb146))
                 have n12_ := Aside0.mk ((by rw [hg]; exact Nat.ne_of_lt (blk_lt (g := gb163) (o := .cells #[.int .i64 t150, .int .i64 t151, .int .i64 t152, .int .i64 t153, .int .i64 t154, .int .i64 t155, .int .i64 t156, .int .i64 t157, .int .i64 t158, .int .i64 t159, .int .i64 t160, .int .i64 t161] 43 (0, 0)) (by (with_reducible repeat (first | refine blk_drewN ?_ _ | refine blk_drew ?_ | refine blk_alloc ?_ _)); exact BK163.out)) : gb163 ≠ gb183))
                 have n13_ := Aside0.mk ((by rw [hg]; exact Nat.ne_of_gt (blk_lt (g := gb163) (o := .cells #[.int .i64 t150, .int .i64 t151, .int .i64 t152, .int .i64 t153, .int .i64 t154, .int .i64 t155, .int .i64 t156, .int .i64 t157, .int .i64 t158, .int .i64 t159, .int .i64 t160, .int .i64 t161] 43 (0, 0)) (by (with_reducible repeat (first | refine blk_drewN ?_ _ | refine blk_drew ?_ | refine blk_alloc ?_ _)); exact BK163.out)) : gb183 ≠ gb163))
                 clear HO169
                 clear BK145
                 clear BK146
                 clear BK163
                 clear HB
                 have HO169 := n0_
                 have BK145 := n1_
                 have BK146 := n2_
                 have BK163 := n3_
                 have HB := n4_
                 have BK183 := n5_
                 have GW183 := n6_
                 have GE183 := n7_
                 have NB145_183 := n8_
                 have NB183_145 := n9_
                 have NB146_183 := n10_
                 have NB183_146 := n11_
                 have NB163_183 := n12_
                 have NB183_163 := n13_
                 clear n0_ n1_ n2_ n3_ n4_ n5_ n6_ n7_ n8_ n9_ n10_ n11_ n12_ n13_
                 clear hb hbox hg
                 obtain ⟨Ao85, co85, eo85⟩ := Kd.R_slice HO169.out
                 (first | subst eo85 | (injection eo85 with f1_ f2_ f3_; have f4_ := f1_.symm; have f5_ := f3_.symm; clear f1_ f2_ f3_; subst f4_; subst f5_))
                 refine hK.out _ _ ⟨(blk_cell BK163.out 0).trans rfl, (blk_cell BK163.out 1).trans rfl, (blk_cell BK163.out 2).trans rfl, (blk_cell BK163.out 3).trans rfl, (blk_cell BK163.out 4).trans rfl, (blk_cell BK163.out 5).trans rfl, (blk_cell BK163.out 6).trans rfl, (blk_cell BK163.out 7).trans rfl, (blk_cell BK163.out 8).trans rfl, (blk_cell BK163.out 9).trans rfl, (blk_cell BK163.out 10).trans rfl, (blk_cell BK163.out 11).trans rfl, (blk_cell BK146.out 0).trans rfl, (blk_cell BK146.out 1).trans rfl, (blk_cell BK146.out 2).trans rfl, (blk_cell BK146.out 3).trans rfl, (blk_cell BK146.out 4).trans rfl⟩ (fun hHeld => ?_)
                 clear hK K
                 refine norm_ (a' := ?_) ?_ ?_
                 rotate_left
                 ·
                  show Act.put _ (some 12) _ = _
                  simp only [Act.put, List.setIfInBounds_toArray, List.set_cons_zero, List.set_cons_succ, i64_w, i32_w]
                  rfl
                 refine one_ (i := 3) (N := some 108) #[true, true, true, true, false, false, false, true, false, false] rfl rfl (one_of HT_.out (by kernel_rfl)) (by decide) (fun K hK => ?_)
                 refine goes_ Tryd.func20 (by kernel_rfl) rfl #[.agg #[.int .i64 t150, .int .i64 t151, .int .i64 t152, .int .i64 t153, .int .i64 t154, .int .i64 t155, .int .i64 t156, .int .i64 t157, .int .i64 t158, .int .i64 t159, .int .i64 t160, .int .i64 t161], .slice Ao85 t167.length co85] (by rfl) rfl rfl (by (try simp only [List.map_toArray, List.map_cons, List.map_nil]); first | done | rfl | (simp only [List.length_drop, List.length_take]; rfl)) ?_
                 with_reducible refine (ledger_Post.calls t150 t151 t152 t153 t154 t155 t156 t157 t158 t159 t160 t161 _ _ t167 t170 t171 t172 t173 t174 t175 t176 t177 t178 t179 t180 t181 t182 _ ?side1 ?side2 ?sideL A80.out).mono ?_; (case sideL => exact laid_at HL0_.out (by repeat (first | (with_reducible first | exact HB.out | apply below_alloc | apply pw_below_drewN | apply below_drew1 | refine below_set ?_ (Aside0.out (by assumption))) | exact HB.out | exact Below.refl _ _ | exact Drawn0.below (Drawn0.refl _))))
                 (case side1 => repeat (first | exact (Kd.R_reads' HO169.out).2.2 | (with_reducible refine Kd.C_alloc ?_ _) | (with_reducible refine Kd.C_drewN ?_ _) | (with_reducible refine Kd.C_drew ?_)))
                 (case side2 => exact (Kd.R_reads' HO169.out).2.1)
                 rintro e w86 ⟨rfl, hb⟩
                 refine ⟨_, rfl, ?_⟩
                 have n0_ := Aside0.mk (Kd.R_below (by (with_reducible repeat (first | apply Kd.R_alloc | apply Kd.R_drewN | apply Kd.R_drew)); exact HO169.out) hb)
                 have n1_ := Aside0.mk (blk_below (g := gb145) (o := .cells #[.int .i64 a0_0, .int .i64 a0_1, .int .i64 a0_2, .int .i64 a0_3, .int .i64 a0_4, .int .i64 a0_5, .int .i64 a0_6, .int .i64 a0_7, .int .i64 a0_8, .int .i64 a0_9, .int .i64 a0_10, .int .i64 a0_11] 43 (0, 0)) (by (with_reducible repeat (first | refine blk_drewN ?_ _ | refine blk_drew ?_ | refine blk_alloc ?_ _)); exact BK145.out) hb)
                 have n2_ := Aside0.mk (blk_below (g := gb146) (o := .cells #[.int .i64 a1_0, .int .i64 a1_1, .int .i64 a1_2, .int .i64 a1_3, .int .i64 a1_4] 28 (0, 0)) (by (with_reducible repeat (first | refine blk_drewN ?_ _ | refine blk_drew ?_ | refine blk_alloc ?_ _)); exact BK146.out) hb)
                 have n3_ := Aside0.mk (blk_below (g := gb163) (o := .cells #[.int .i64 t150, .int .i64 t151, .int .i64 t152, .int .i64 t153, .int .i64 t154, .int .i64 t155, .int .i64 t156, .int .i64 t157, .int .i64 t158, .int .i64 t159, .int .i64 t160, .int .i64 t161] 43 (0, 0)) (by (with_reducible repeat (first | refine blk_drewN ?_ _ | refine blk_drew ?_ | refine blk_alloc ?_ _)); exact BK163.out) hb)
                 have n4_ := Aside0.mk (blk_below (g := gb183) (o := .cells #[.int .i64 0, .int .i64 0, .int .i64 0, .int .i64 0, .int .i64 0, .int .i64 0, .int .i64 0, .int .i64 0, .int .i64 0, .int .i64 0, .int .i64 0, .int .i64 0] 43 (0, 0)) (by (with_reducible repeat (first | refine blk_drewN ?_ _ | refine blk_drew ?_ | refine blk_alloc ?_ _)); exact BK183.out) hb)
                 have n5_ := Aside0.mk (below_step (by repeat (first | (with_reducible first | exact HB.out | apply below_alloc | apply pw_below_drewN | apply below_drew1 | refine below_set ?_ (Aside0.out (by assumption))) | exact HB.out)) hb)
                 clear HO169
                 clear BK145
                 clear BK146
                 clear BK163
                 clear BK183
                 clear HB
                 have HO169 := n0_
                 have BK145 := n1_
                 have BK146 := n2_
                 have BK163 := n3_
                 have BK183 := n4_
                 have HB := n5_
                 clear n0_ n1_ n2_ n3_ n4_ n5_
                 (try clear hb)
                 (try clear hb2)
                 (try clear hk)
                 (try clear hi)
                 refine hK.out _ _ ⟨(blk_cell BK163.out 0).trans rfl, (blk_cell BK163.out 1).trans rfl, (blk_cell BK163.out 2).trans rfl, (blk_cell BK163.out 3).trans rfl, (blk_cell BK163.out 4).trans rfl, (blk_cell BK163.out 5).trans rfl, (blk_cell BK163.out 6).trans rfl, (blk_cell BK163.out 7).trans rfl, (blk_cell BK163.out 8).trans rfl, (blk_cell BK163.out 9).trans rfl, (blk_cell BK163.out 10).trans rfl, (blk_cell BK163.out 11).trans rfl, (blk_cell BK146.out 0).trans rfl, (blk_cell BK146.out 1).trans rfl, (blk_cell BK146.out 2).trans rfl, (blk_cell BK146.out 3).trans rfl, (blk_cell BK146.out 4).trans rfl⟩ (fun hHeld => ?_)
                 clear hK K
                 refine norm_ (a' := ?_) ?_ ?_
                 rotate_left
                 ·
                  show Act.put _ (some 108) _ = _
                  simp only [Act.put, List.setIfInBounds_toArray, List.set_cons_zero, List.set_cons_succ, i64_w, i32_w]
                  rfl
                 refine pure_ (i := 4) (N := some 104) (v := ?_) (a' := ?_) #[true, true, true, true, true, false, false, true, false, false] rfl rfl (any_of HT_.out (by kernel_rfl)) (fun _ _ _ h => h) (Or.inl ⟨by rfl, ?_⟩) ?_ ?_
                 rotate_left
                 ·
                  intro w'
                  go_simp
                  with_reducible rfl
                 rotate_left
                 ·
                  simp only [Act.put, List.setIfInBounds_toArray, List.set_cons_zero, List.set_cons_succ, i64_w, i32_w]
                  rfl
                 refine pure_ (i := 5) (N := some 109) (v := ?_) (a' := ?_) #[true, true, true, true, true, true, false, true, false, false] rfl rfl (any_of HT_.out (by kernel_rfl)) (fun _ _ _ h => h) (Or.inl ⟨by rfl, ?_⟩) ?_ ?_
                 rotate_left
                 ·
                  intro w'
                  go_simp
                  with_reducible rfl
                 rotate_left
                 ·
                  simp only [Act.put, List.setIfInBounds_toArray, List.set_cons_zero, List.set_cons_succ, i64_w, i32_w]
                  rfl
                 refine pure_ (i := 6) (N := some 110) (v := ?_) (a' := ?_) #[true, true, true, true, true, true, true, true, false, false] rfl rfl (any_of HT_.out (by kernel_rfl)) (fun _ _ _ h => h) (Or.inl ⟨by rfl, ?_⟩) ?_ ?_
                 rotate_left
                 ·
                  intro w'
                  go_simp
                  with_reducible rfl
                 rotate_left
                 ·
                  simp only [Act.put, List.setIfInBounds_toArray, List.set_cons_zero, List.set_cons_succ, i64_w, i32_w]
                  rfl
                 exact norm_ (by simp only [putAll, Act.put, List.setIfInBounds_toArray, List.set_cons_zero, List.set_cons_succ]) (hCont (.slice Ao85 t167.length co85, gb183) _ ⟨hHeld, (by (with_reducible repeat (first | apply Kd.R_alloc | apply Kd.R_drewN | apply Kd.R_drew)); exact HO169.out), (by (with_reducible repeat (first | refine blk_drewN ?_ _ | refine blk_drew ?_ | refine blk_alloc ?_ _)); exact BK145.out), (by (with_reducible repeat (first | refine blk_drewN ?_ _ | refine blk_drew ?_ | refine blk_alloc ?_ _)); exact BK146.out), (by (with_reducible repeat (first | refine blk_drewN ?_ _ | refine blk_drew ?_ | refine blk_alloc ?_ _)); exact BK163.out), (by (with_reducible repeat (first | refine blk_drewN ?_ _ | refine blk_drew ?_ | refine blk_alloc ?_ _)); exact BK183.out), GW183.out, GE183.out, NB145_183.out, NB183_145.out, NB146_183.out, NB183_146.out, NB163_183.out, NB183_163.out, (by repeat (first | (with_reducible first | exact HB.out | apply below_alloc | apply pw_below_drewN | apply below_drew1 | refine below_set ?_ (Aside0.out (by assumption))) | exact HB.out))⟩)
               ·
                skip
                refine box_step ?hg (N := 12) ?hd (cs := #[.int .i64 0, .int .i64 0, .int .i64 0, .int .i64 0, .int .i64 0, .int .i64 0, .int .i64 0, .int .i64 0, .int .i64 0, .int .i64 0, .int .i64 0, .int .i64 0]) (t := 43) ?hr ?_; (case hd => rfl); (case hg => rfl); (case hr => first | (go_simp; done) | (go_simp; rfl))
                intro gb183 hg w83 hbox hb
                have n0_ := Aside0.mk (blk_below (g := gb145) (o := .cells #[.int .i64 a0_0, .int .i64 a0_1, .int .i64 a0_2, .int .i64 a0_3, .int .i64 a0_4, .int .i64 a0_5, .int .i64 a0_6, .int .i64 a0_7, .int .i64 a0_8, .int .i64 a0_9, .int .i64 a0_10, .int .i64 a0_11] 43 (0, 0)) (by (with_reducible repeat (first | refine blk_drewN ?_ _ | refine blk_drew ?_ | refine blk_alloc ?_ _)); exact BK145.out) hb)
                have n1_ := Aside0.mk (blk_below (g := gb146) (o := .cells #[.int .i64 a1_0, .int .i64 a1_1, .int .i64 a1_2, .int .i64 a1_3, .int .i64 a1_4] 28 (0, 0)) (by (with_reducible repeat (first | refine blk_drewN ?_ _ | refine blk_drew ?_ | refine blk_alloc ?_ _)); exact BK146.out) hb)
                have n2_ := Aside0.mk (blk_below (g := gb163) (o := .cells #[.int .i64 t150, .int .i64 t151, .int .i64 t152, .int .i64 t153, .int .i64 t154, .int .i64 t155, .int .i64 t156, .int .i64 t157, .int .i64 t158, .int .i64 t159, .int .i64 t160, .int .i64 t161] 43 (0, 0)) (by (with_reducible repeat (first | refine blk_drewN ?_ _ | refine blk_drew ?_ | refine blk_alloc ?_ _)); exact BK163.out) hb)
                have n3_ := Aside0.mk (below_step (by repeat (first | (with_reducible first | exact HB.out | apply below_alloc | apply pw_below_drewN | apply below_drew1 | refine below_set ?_ (Aside0.out (by assumption))) | exact HB.out)) hb)
                have n4_ := Aside0.mk (hbox)
                have n5_ := Aside0.mk ((by rw [hg]; exact (below_size (by repeat (first | (with_reducible first | exact HB.out | apply below_alloc | apply pw_below_drewN | apply below_drew1 | refine below_set ?_ (Aside0.out (by assumption))) | exact HB.out))) : w.heap.size ≤ gb183))
                have n6_ := Aside0.mk ((by rw [hg]; exact (below_size (by repeat (first | (with_reducible first | exact HB.out | apply below_alloc | apply pw_below_drewN | apply below_drew1 | refine below_set ?_ (Aside0.out (by assumption))) | exact HB.out))) : w.heap.size ≤ gb183))
                have n7_ := Aside0.mk ((by rw [hg]; exact Nat.ne_of_lt (blk_lt (g := gb145) (o := .cells #[.int .i64 a0_0, .int .i64 a0_1, .int .i64 a0_2, .int .i64 a0_3, .int .i64 a0_4, .int .i64 a0_5, .int .i64 a0_6, .int .i64 a0_7, .int .i64 a0_8, .int .i64 a0_9, .int .i64 a0_10, .int .i64 a0_11] 43 (0, 0)) (by (with_reducible repeat (first | refine blk_drewN ?_ _ | refine blk_drew ?_ | refine blk_alloc ?_ _)); exact BK145.out)) : gb145 ≠ gb183))
                have n8_ := Aside0.mk ((by rw [hg]; exact Nat.ne_of_gt (blk_lt (g := gb145) (o := .cells #[.int .i64 a0_0, .int .i64 a0_1, .int .i64 a0_2, .int .i64 a0_3, .int .i64 a0_4, .int .i64 a0_5, .int .i64 a0_6, .int .i64 a0_7, .int .i64 a0_8, .int .i64 a0_9, .int .i64 a0_10, .int .i64 a0_11] 43 (0, 0)) (by (with_reducible repeat (first | refine blk_drewN ?_ _ | refine blk_drew ?_ | refine blk_alloc ?_ _)); exact BK145.out)) : gb183 ≠ gb145))
                have n9_ := Aside0.mk ((by rw [hg]; exact Nat.ne_of_lt (blk_lt (g := gb146) (o := .cells #[.int .i64 a1_0, .int .i64 a1_1, .int .i64 a1_2, .int .i64 a1_3, .int .i64 a1_4] 28 (0, 0)) (by (with_reducible repeat (first | refine blk_drewN ?_ _ | refine blk_drew ?_ | refine blk_alloc ?_ _)); exact BK146.out)) : gb146 ≠ gb183))
                have n10_ := Aside0.mk ((by rw [hg]; exact Nat.ne_of_gt (blk_lt (g := gb146) (o := .cells #[.int .i64 a1_0, .int .i64 a1_1, .int .i64 a1_2, .int .i64 a1_3, .int .i64 a1_4] 28 (0, 0)) (by (with_reducible repeat (first | refine blk_drewN ?_ _ | refine blk_drew ?_ | refine blk_alloc ?_ _)); exact BK146.out)) : gb183 ≠ gb146))
                have n11_ := Aside0.mk ((by rw [hg]; exact Nat.ne_of_lt (blk_lt (g := gb163) (o := .cells #[.int .i64 t150, .int .i64 t151, .int .i64 t152, .int .i64 t153, .int .i64 t154, .int .i64 t155, .int .i64 t156, .int .i64 t157, .int .i64 t158, .int .i64 t159, .int .i64 t160, .int .i64 t161] 43 (0, 0)) (by (with_reducible repeat (first | refine blk_drewN ?_ _ | refine blk_drew ?_ | refine blk_alloc ?_ _)); exact BK163.out)) : gb163 ≠ gb183))
                have n12_ := Aside0.mk ((by rw [hg]; exact Nat.ne_of_gt (blk_lt (g := gb163) (o := .cells #[.int .i64 t150, .int .i64 t151, .int .i64 t152, .int .i64 t153, .int .i64 t154, .int .i64 t155, .int .i64 t156, .int .i64 t157, .int .i64 t158, .int .i64 t159, .int .i64 t160, .int .i64 t161] 43 (0, 0)) (by (with_reducible repeat (first | refine blk_drewN ?_ _ | refine blk_drew ?_ | refine blk_alloc ?_ _)); exact BK163.out)) : gb183 ≠ gb163))
                clear BK145
                clear BK146
                clear BK163
                clear HB
                have BK145 := n0_
                have BK146 := n1_
                have BK163 := n2_
                have HB := n3_
                have BK183 := n4_
                have GW183 := n5_
                have GE183 := n6_
                have NB145_183 := n7_
                have NB183_145 := n8_
                have NB146_183 := n9_
                have NB183_146 := n10_
                have NB163_183 := n11_
                have NB183_163 := n12_
                clear n0_ n1_ n2_ n3_ n4_ n5_ n6_ n7_ n8_ n9_ n10_ n11_ n12_
                clear hb hbox hg
                refine hK.out _ _ ⟨(blk_cell BK163.out 0).trans rfl, (blk_cell BK163.out 1).trans rfl, (blk_cell BK163.out 2).trans rfl, (blk_cell BK163.out 3).trans rfl, (blk_cell BK163.out 4).trans rfl, (blk_cell BK163.out 5).trans rfl, (blk_cell BK163.out 6).trans rfl, (blk_cell BK163.out 7).trans rfl, (blk_cell BK163.out 8).trans rfl, (blk_cell BK163.out 9).trans rfl, (blk_cell BK163.out 10).trans rfl, (blk_cell BK163.out 11).trans rfl, (blk_cell BK146.out 0).trans rfl, (blk_cell BK146.out 1).trans rfl, (blk_cell BK146.out 2).trans rfl, (blk_cell BK146.out 3).trans rfl, (blk_cell BK146.out 4).trans rfl⟩ (fun hHeld => ?_)
                clear hK K
                refine norm_ (a' := ?_) ?_ ?_
                rotate_left
                ·
                 show Act.put _ (some 12) _ = _
                 simp only [Act.put, List.setIfInBounds_toArray, List.set_cons_zero, List.set_cons_succ, i64_w, i32_w]
                 rfl
                refine one_ (i := 2) (N := some 107) #[true, true, true, false, false, false, false, true, false, false] rfl rfl (one_of HT_.out (by kernel_rfl)) (by decide) (fun K hK => ?_)
                refine goes_ Tryd.func23 (by kernel_rfl) rfl #[.agg #[.int .i64 a1_0, .int .i64 a1_1, .int .i64 a1_2, .int .i64 a1_3, .int .i64 a1_4]] (by rfl) rfl rfl (by (try simp only [List.map_toArray, List.map_cons, List.map_nil]); first | done | rfl | (simp only [List.length_drop, List.length_take]; rfl)) ?_
                with_reducible refine (waterfall_Undo.calls kj71 a1_0 a1_1 a1_2 a1_3 a1_4 t167 _ A79.out).mono ?_
                rintro e w84 ⟨v168, rfl, ho0, hb⟩
                refine ⟨_, rfl, ?_⟩
                have n0_ := Aside0.mk (Kd.R_lower ho0 (below_size (by repeat (first | (with_reducible first | exact HB.out | apply below_alloc | apply pw_below_drewN | apply below_drew1 | refine below_set ?_ (Aside0.out (by assumption))) | exact HB.out))))
                have n1_ := Aside0.mk (blk_below (g := gb145) (o := .cells #[.int .i64 a0_0, .int .i64 a0_1, .int .i64 a0_2, .int .i64 a0_3, .int .i64 a0_4, .int .i64 a0_5, .int .i64 a0_6, .int .i64 a0_7, .int .i64 a0_8, .int .i64 a0_9, .int .i64 a0_10, .int .i64 a0_11] 43 (0, 0)) (by (with_reducible repeat (first | refine blk_drewN ?_ _ | refine blk_drew ?_ | refine blk_alloc ?_ _)); exact BK145.out) hb)
                have n2_ := Aside0.mk (blk_below (g := gb146) (o := .cells #[.int .i64 a1_0, .int .i64 a1_1, .int .i64 a1_2, .int .i64 a1_3, .int .i64 a1_4] 28 (0, 0)) (by (with_reducible repeat (first | refine blk_drewN ?_ _ | refine blk_drew ?_ | refine blk_alloc ?_ _)); exact BK146.out) hb)
                have n3_ := Aside0.mk (blk_below (g := gb163) (o := .cells #[.int .i64 t150, .int .i64 t151, .int .i64 t152, .int .i64 t153, .int .i64 t154, .int .i64 t155, .int .i64 t156, .int .i64 t157, .int .i64 t158, .int .i64 t159, .int .i64 t160, .int .i64 t161] 43 (0, 0)) (by (with_reducible repeat (first | refine blk_drewN ?_ _ | refine blk_drew ?_ | refine blk_alloc ?_ _)); exact BK163.out) hb)
                have n4_ := Aside0.mk (blk_below (g := gb183) (o := .cells #[.int .i64 0, .int .i64 0, .int .i64 0, .int .i64 0, .int .i64 0, .int .i64 0, .int .i64 0, .int .i64 0, .int .i64 0, .int .i64 0, .int .i64 0, .int .i64 0] 43 (0, 0)) (by (with_reducible repeat (first | refine blk_drewN ?_ _ | refine blk_drew ?_ | refine blk_alloc ?_ _)); exact BK183.out) hb)
                have n5_ := Aside0.mk (below_step (by repeat (first | (with_reducible first | exact HB.out | apply below_alloc | apply pw_below_drewN | apply below_drew1 | refine below_set ?_ (Aside0.out (by assumption))) | exact HB.out)) hb)
                clear BK145
                clear BK146
                clear BK163
                clear BK183
                clear HB
                have HO169 := n0_
                have BK145 := n1_
                have BK146 := n2_
                have BK163 := n3_
                have BK183 := n4_
                have HB := n5_
                clear n0_ n1_ n2_ n3_ n4_ n5_
                (try clear hb)
                (try clear hb2)
                (try clear hk)
                (try clear hi)
                (try clear ho0)
                obtain ⟨Ao85, co85, eo85⟩ := Kd.R_slice HO169.out
                (first | subst eo85 | (injection eo85 with f1_ f2_ f3_; have f4_ := f1_.symm; have f5_ := f3_.symm; clear f1_ f2_ f3_; subst f4_; subst f5_))
                refine hK.out _ _ ⟨(blk_cell BK163.out 0).trans rfl, (blk_cell BK163.out 1).trans rfl, (blk_cell BK163.out 2).trans rfl, (blk_cell BK163.out 3).trans rfl, (blk_cell BK163.out 4).trans rfl, (blk_cell BK163.out 5).trans rfl, (blk_cell BK163.out 6).trans rfl, (blk_cell BK163.out 7).trans rfl, (blk_cell BK163.out 8).trans rfl, (blk_cell BK163.out 9).trans rfl, (blk_cell BK163.out 10).trans rfl, (blk_cell BK163.out 11).trans rfl, (blk_cell BK146.out 0).trans rfl, (blk_cell BK146.out 1).trans rfl, (blk_cell BK146.out 2).trans rfl, (blk_cell BK146.out 3).trans rfl, (blk_cell BK146.out 4).trans rfl⟩ (fun hHeld => ?_)
                clear hK K
                refine norm_ (a' := ?_) ?_ ?_
                rotate_left
                ·
                 show Act.put _ (some 107) _ = _
                 simp only [Act.put, List.setIfInBounds_toArray, List.set_cons_zero, List.set_cons_succ, i64_w, i32_w]
                 rfl
                refine one_ (i := 3) (N := some 108) #[true, true, true, true, false, false, false, true, false, false] rfl rfl (one_of HT_.out (by kernel_rfl)) (by decide) (fun K hK => ?_)
                refine goes_ Tryd.func20 (by kernel_rfl) rfl #[.agg #[.int .i64 t150, .int .i64 t151, .int .i64 t152, .int .i64 t153, .int .i64 t154, .int .i64 t155, .int .i64 t156, .int .i64 t157, .int .i64 t158, .int .i64 t159, .int .i64 t160, .int .i64 t161], .slice Ao85 t167.length co85] (by rfl) rfl rfl (by (try simp only [List.map_toArray, List.map_cons, List.map_nil]); first | done | rfl | (simp only [List.length_drop, List.length_take]; rfl)) ?_
                with_reducible refine (ledger_Post.calls t150 t151 t152 t153 t154 t155 t156 t157 t158 t159 t160 t161 _ _ t167 t170 t171 t172 t173 t174 t175 t176 t177 t178 t179 t180 t181 t182 _ ?side1 ?side2 ?sideL A80.out).mono ?_; (case sideL => exact laid_at HL0_.out (by repeat (first | (with_reducible first | exact HB.out | apply below_alloc | apply pw_below_drewN | apply below_drew1 | refine below_set ?_ (Aside0.out (by assumption))) | exact HB.out | exact Below.refl _ _ | exact Drawn0.below (Drawn0.refl _))))
                (case side1 => repeat (first | exact (Kd.R_reads' HO169.out).2.2 | (with_reducible refine Kd.C_alloc ?_ _) | (with_reducible refine Kd.C_drewN ?_ _) | (with_reducible refine Kd.C_drew ?_)))
                (case side2 => exact (Kd.R_reads' HO169.out).2.1)
                rintro e w86 ⟨rfl, hb⟩
                refine ⟨_, rfl, ?_⟩
                have n0_ := Aside0.mk (Kd.R_below (by (with_reducible repeat (first | apply Kd.R_alloc | apply Kd.R_drewN | apply Kd.R_drew)); exact HO169.out) hb)
                have n1_ := Aside0.mk (blk_below (g := gb145) (o := .cells #[.int .i64 a0_0, .int .i64 a0_1, .int .i64 a0_2, .int .i64 a0_3, .int .i64 a0_4, .int .i64 a0_5, .int .i64 a0_6, .int .i64 a0_7, .int .i64 a0_8, .int .i64 a0_9, .int .i64 a0_10, .int .i64 a0_11] 43 (0, 0)) (by (with_reducible repeat (first | refine blk_drewN ?_ _ | refine blk_drew ?_ | refine blk_alloc ?_ _)); exact BK145.out) hb)
                have n2_ := Aside0.mk (blk_below (g := gb146) (o := .cells #[.int .i64 a1_0, .int .i64 a1_1, .int .i64 a1_2, .int .i64 a1_3, .int .i64 a1_4] 28 (0, 0)) (by (with_reducible repeat (first | refine blk_drewN ?_ _ | refine blk_drew ?_ | refine blk_alloc ?_ _)); exact BK146.out) hb)
                have n3_ := Aside0.mk (blk_below (g := gb163) (o := .cells #[.int .i64 t150, .int .i64 t151, .int .i64 t152, .int .i64 t153, .int .i64 t154, .int .i64 t155, .int .i64 t156, .int .i64 t157, .int .i64 t158, .int .i64 t159, .int .i64 t160, .int .i64 t161] 43 (0, 0)) (by (with_reducible repeat (first | refine blk_drewN ?_ _ | refine blk_drew ?_ | refine blk_alloc ?_ _)); exact BK163.out) hb)
                have n4_ := Aside0.mk (blk_below (g := gb183) (o := .cells #[.int .i64 0, .int .i64 0, .int .i64 0, .int .i64 0, .int .i64 0, .int .i64 0, .int .i64 0, .int .i64 0, .int .i64 0, .int .i64 0, .int .i64 0, .int .i64 0] 43 (0, 0)) (by (with_reducible repeat (first | refine blk_drewN ?_ _ | refine blk_drew ?_ | refine blk_alloc ?_ _)); exact BK183.out) hb)
                have n5_ := Aside0.mk (below_step (by repeat (first | (with_reducible first | exact HB.out | apply below_alloc | apply pw_below_drewN | apply below_drew1 | refine below_set ?_ (Aside0.out (by assumption))) | exact HB.out)) hb)
                clear HO169
                clear BK145
                clear BK146
                clear BK163
                clear BK183
                clear HB
                have HO169 := n0_
                have BK145 := n1_
                have BK146 := n2_
                have BK163 := n3_
                have BK183 := n4_
                have HB := n5_
                clear n0_ n1_ n2_ n3_ n4_ n5_
                (try clear hb)
                (try clear hb2)
                (try clear hk)
                (try clear hi)
                refine hK.out _ _ ⟨(blk_cell BK163.out 0).trans rfl, (blk_cell BK163.out 1).trans rfl, (blk_cell BK163.out 2).trans rfl, (blk_cell BK163.out 3).trans rfl, (blk_cell BK163.out 4).trans rfl, (blk_cell BK163.out 5).trans rfl, (blk_cell BK163.out 6).trans rfl, (blk_cell BK163.out 7).trans rfl, (blk_cell BK163.out 8).trans rfl, (blk_cell BK163.out 9).trans rfl, (blk_cell BK163.out 10).trans rfl, (blk_cell BK163.out 11).trans rfl, (blk_cell BK146.out 0).trans rfl, (blk_cell BK146.out 1).trans rfl, (blk_cell BK146.out 2).trans rfl, (blk_cell BK146.out 3).trans rfl, (blk_cell BK146.out 4).trans rfl⟩ (fun hHeld => ?_)
                clear hK K
                refine norm_ (a' := ?_) ?_ ?_
                rotate_left
                ·
                 show Act.put _ (some 108) _ = _
                 simp only [Act.put, List.setIfInBounds_toArray, List.set_cons_zero, List.set_cons_succ, i64_w, i32_w]
                 rfl
                refine pure_ (i := 4) (N := some 104) (v := ?_) (a' := ?_) #[true, true, true, true, true, false, false, true, false, false] rfl rfl (any_of HT_.out (by kernel_rfl)) (fun _ _ _ h => h) (Or.inl ⟨by rfl, ?_⟩) ?_ ?_
                rotate_left
                ·
                 intro w'
                 go_simp
                 with_reducible rfl
                rotate_left
                ·
                 simp only [Act.put, List.setIfInBounds_toArray, List.set_cons_zero, List.set_cons_succ, i64_w, i32_w]
                 rfl
                refine pure_ (i := 5) (N := some 109) (v := ?_) (a' := ?_) #[true, true, true, true, true, true, false, true, false, false] rfl rfl (any_of HT_.out (by kernel_rfl)) (fun _ _ _ h => h) (Or.inl ⟨by rfl, ?_⟩) ?_ ?_
                rotate_left
                ·
                 intro w'
                 go_simp
                 with_reducible rfl
                rotate_left
                ·
                 simp only [Act.put, List.setIfInBounds_toArray, List.set_cons_zero, List.set_cons_succ, i64_w, i32_w]
                 rfl
                refine pure_ (i := 6) (N := some 110) (v := ?_) (a' := ?_) #[true, true, true, true, true, true, true, true, false, false] rfl rfl (any_of HT_.out (by kernel_rfl)) (fun _ _ _ h => h) (Or.inl ⟨by rfl, ?_⟩) ?_ ?_
                rotate_left
                ·
                 intro w'
                 go_simp
                 with_reducible rfl
                rotate_left
                ·
                 simp only [Act.put, List.setIfInBounds_toArray, List.set_cons_zero, List.set_cons_succ, i64_w, i32_w]
                 rfl
                exact norm_ (by simp only [putAll, Act.put, List.setIfInBounds_toArray, List.set_cons_zero, List.set_cons_succ]) (hCont (.slice Ao85 t167.length co85, gb183) _ ⟨hHeld, (by (with_reducible repeat (first | apply Kd.R_alloc | apply Kd.R_drewN | apply Kd.R_drew)); exact HO169.out), (by (with_reducible repeat (first | refine blk_drewN ?_ _ | refine blk_drew ?_ | refine blk_alloc ?_ _)); exact BK145.out), (by (with_reducible repeat (first | refine blk_drewN ?_ _ | refine blk_drew ?_ | refine blk_alloc ?_ _)); exact BK146.out), (by (with_reducible repeat (first | refine blk_drewN ?_ _ | refine blk_drew ?_ | refine blk_alloc ?_ _)); exact BK163.out), (by (with_reducible repeat (first | refine blk_drewN ?_ _ | refine blk_drew ?_ | refine blk_alloc ?_ _)); exact BK183.out), GW183.out, GE183.out, NB145_183.out, NB183_145.out, NB146_183.out, NB183_146.out, NB163_183.out, NB183_163.out, (by repeat (first | (with_reducible first | exact HB.out | apply below_alloc | apply pw_below_drewN | apply below_drew1 | refine below_set ?_ (Aside0.out (by assumption))) | exact HB.out))⟩)
              rintro ⟨v168, gb183⟩ w87 ⟨hS_, h0_, h1_, h2_, h3_, h4_, h5_, h6_, h7_, h8_, h9_, h10_, h11_, h12_, h13_⟩
              have n0_ : Aside0 (Kd.R k63 63 w87 w.heap.size (fun _ => True) v168 t167) := ⟨h0_⟩
              have n1_ : Aside0 (w87.heap[gb145]? = some (.cells #[.int .i64 a0_0, .int .i64 a0_1, .int .i64 a0_2, .int .i64 a0_3, .int .i64 a0_4, .int .i64 a0_5, .int .i64 a0_6, .int .i64 a0_7, .int .i64 a0_8, .int .i64 a0_9, .int .i64 a0_10, .int .i64 a0_11] 43 (0, 0))) := ⟨h1_⟩
              have n2_ : Aside0 (w87.heap[gb146]? = some (.cells #[.int .i64 a1_0, .int .i64 a1_1, .int .i64 a1_2, .int .i64 a1_3, .int .i64 a1_4] 28 (0, 0))) := ⟨h2_⟩
              have n3_ : Aside0 (w87.heap[gb163]? = some (.cells #[.int .i64 t150, .int .i64 t151, .int .i64 t152, .int .i64 t153, .int .i64 t154, .int .i64 t155, .int .i64 t156, .int .i64 t157, .int .i64 t158, .int .i64 t159, .int .i64 t160, .int .i64 t161] 43 (0, 0))) := ⟨h3_⟩
              have n4_ : Aside0 (w87.heap[gb183]? = some (.cells #[.int .i64 0, .int .i64 0, .int .i64 0, .int .i64 0, .int .i64 0, .int .i64 0, .int .i64 0, .int .i64 0, .int .i64 0, .int .i64 0, .int .i64 0, .int .i64 0] 43 (0, 0))) := ⟨h4_⟩
              have n5_ : Aside0 (w.heap.size ≤ gb183) := ⟨h5_⟩
              have n6_ : Aside0 (w.heap.size ≤ gb183) := ⟨h6_⟩
              have n7_ : Aside0 (gb145 ≠ gb183) := ⟨h7_⟩
              have n8_ : Aside0 (gb183 ≠ gb145) := ⟨h8_⟩
              have n9_ : Aside0 (gb146 ≠ gb183) := ⟨h9_⟩
              have n10_ : Aside0 (gb183 ≠ gb146) := ⟨h10_⟩
              have n11_ : Aside0 (gb163 ≠ gb183) := ⟨h11_⟩
              have n12_ : Aside0 (gb183 ≠ gb163) := ⟨h12_⟩
              have n13_ : Aside0 (Below w.heap.size w w87) := ⟨h13_⟩
              clear BK145
              clear BK146
              clear BK163
              clear HB
              clear h0_ h1_ h2_ h3_ h4_ h5_ h6_ h7_ h8_ h9_ h10_ h11_ h12_ h13_
              have HO169 := n0_
              have BK145 := n1_
              have BK146 := n2_
              have BK163 := n3_
              have BK183 := n4_
              have GW183 := n5_
              have GE183 := n6_
              have NB145_183 := n7_
              have NB183_145 := n8_
              have NB146_183 := n9_
              have NB183_146 := n10_
              have NB163_183 := n11_
              have NB183_163 := n12_
              have HB := n13_
              clear n0_ n1_ n2_ n3_ n4_ n5_ n6_ n7_ n8_ n9_ n10_ n11_ n12_ n13_
              have hHeld : w87.cell? ⟨gb163, 0, none⟩ = some (.int .i64 t150) ∧ w87.cell? ⟨gb163, 1, none⟩ = some (.int .i64 t151) ∧ w87.cell? ⟨gb163, 2, none⟩ = some (.int .i64 t152) ∧ w87.cell? ⟨gb163, 3, none⟩ = some (.int .i64 t153) ∧ w87.cell? ⟨gb163, 4, none⟩ = some (.int .i64 t154) ∧ w87.cell? ⟨gb163, 5, none⟩ = some (.int .i64 t155) ∧ w87.cell? ⟨gb163, 6, none⟩ = some (.int .i64 t156) ∧ w87.cell? ⟨gb163, 7, none⟩ = some (.int .i64 t157) ∧ w87.cell? ⟨gb163, 8, none⟩ = some (.int .i64 t158) ∧ w87.cell? ⟨gb163, 9, none⟩ = some (.int .i64 t159) ∧ w87.cell? ⟨gb163, 10, none⟩ = some (.int .i64 t160) ∧ w87.cell? ⟨gb163, 11, none⟩ = some (.int .i64 t161) ∧ w87.cell? ⟨gb146, 0, none⟩ = some (.int .i64 a1_0) ∧ w87.cell? ⟨gb146, 1, none⟩ = some (.int .i64 a1_1) ∧ w87.cell? ⟨gb146, 2, none⟩ = some (.int .i64 a1_2) ∧ w87.cell? ⟨gb146, 3, none⟩ = some (.int .i64 a1_3) ∧ w87.cell? ⟨gb146, 4, none⟩ = some (.int .i64 a1_4) := hS_
              refine norm_ (a' := ?_) ?_ ?_
              rotate_left
              ·
               simp only [putAll, Act.put, List.setIfInBounds_toArray, List.set_cons_zero, List.set_cons_succ]
               rfl
              refine one_ (i := 8) (N := none) #[true, true, true, true, true, true, true, true, true, false] rfl rfl (one_of HT_.out (by kernel_rfl)) (by decide) (fun K hK => ?_)
              have hs88 : w87.cell? ⟨gb183, 0, none⟩ = some (.int .i64 0) := (blk_cell BK183.out 0).trans rfl
              have hfs88 := blk_frozen BK183.out 0
              have hns88_0 := NB145_183.out
              have hns88_1 := NB146_183.out
              have hns88_2 := NB163_183.out
              have hms88_0 := NB183_145.out
              have hms88_1 := NB183_146.out
              have hms88_2 := NB183_163.out
              have hs89 : w87.cell? ⟨gb183, 1, none⟩ = some (.int .i64 0) := (blk_cell BK183.out 1).trans rfl
              have hfs89 := blk_frozen BK183.out 1
              have hns89_0 := NB145_183.out
              have hns89_1 := NB146_183.out
              have hns89_2 := NB163_183.out
              have hms89_0 := NB183_145.out
              have hms89_1 := NB183_146.out
              have hms89_2 := NB183_163.out
              have hs90 : w87.cell? ⟨gb183, 2, none⟩ = some (.int .i64 0) := (blk_cell BK183.out 2).trans rfl
              have hfs90 := blk_frozen BK183.out 2
              have hns90_0 := NB145_183.out
              have hns90_1 := NB146_183.out
              have hns90_2 := NB163_183.out
              have hms90_0 := NB183_145.out
              have hms90_1 := NB183_146.out
              have hms90_2 := NB183_163.out
              have hs91 : w87.cell? ⟨gb183, 3, none⟩ = some (.int .i64 0) := (blk_cell BK183.out 3).trans rfl
              have hfs91 := blk_frozen BK183.out 3
              have hns91_0 := NB145_183.out
              have hns91_1 := NB146_183.out
              have hns91_2 := NB163_183.out
              have hms91_0 := NB183_145.out
              have hms91_1 := NB183_146.out
              have hms91_2 := NB183_163.out
              have hs92 : w87.cell? ⟨gb183, 4, none⟩ = some (.int .i64 0) := (blk_cell BK183.out 4).trans rfl
              have hfs92 := blk_frozen BK183.out 4
              have hns92_0 := NB145_183.out
              have hns92_1 := NB146_183.out
              have hns92_2 := NB163_183.out
              have hms92_0 := NB183_145.out
              have hms92_1 := NB183_146.out
              have hms92_2 := NB183_163.out
              have hs93 : w87.cell? ⟨gb183, 5, none⟩ = some (.int .i64 0) := (blk_cell BK183.out 5).trans rfl
              have hfs93 := blk_frozen BK183.out 5
              have hns93_0 := NB145_183.out
              have hns93_1 := NB146_183.out
              have hns93_2 := NB163_183.out
              have hms93_0 := NB183_145.out
              have hms93_1 := NB183_146.out
              have hms93_2 := NB183_163.out
              have hs94 : w87.cell? ⟨gb183, 6, none⟩ = some (.int .i64 0) := (blk_cell BK183.out 6).trans rfl
              have hfs94 := blk_frozen BK183.out 6
              have hns94_0 := NB145_183.out
              have hns94_1 := NB146_183.out
              have hns94_2 := NB163_183.out
              have hms94_0 := NB183_145.out
              have hms94_1 := NB183_146.out
              have hms94_2 := NB183_163.out
              have hs95 : w87.cell? ⟨gb183, 7, none⟩ = some (.int .i64 0) := (blk_cell BK183.out 7).trans rfl
              have hfs95 := blk_frozen BK183.out 7
              have hns95_0 := NB145_183.out
              have hns95_1 := NB146_183.out
              have hns95_2 := NB163_183.out
              have hms95_0 := NB183_145.out
              have hms95_1 := NB183_146.out
              have hms95_2 := NB183_163.out
              have hs96 : w87.cell? ⟨gb183, 8, none⟩ = some (.int .i64 0) := (blk_cell BK183.out 8).trans rfl
              have hfs96 := blk_frozen BK183.out 8
              have hns96_0 := NB145_183.out
              have hns96_1 := NB146_183.out
              have hns96_2 := NB163_183.out
              have hms96_0 := NB183_145.out
              have hms96_1 := NB183_146.out
              have hms96_2 := NB183_163.out
              have hs97 : w87.cell? ⟨gb183, 9, none⟩ = some (.int .i64 0) := (blk_cell BK183.out 9).trans rfl
              have hfs97 := blk_frozen BK183.out 9
              have hns97_0 := NB145_183.out
              have hns97_1 := NB146_183.out
              have hns97_2 := NB163_183.out
              have hms97_0 := NB183_145.out
              have hms97_1 := NB183_146.out
              have hms97_2 := NB183_163.out
              have hs98 : w87.cell? ⟨gb183, 10, none⟩ = some (.int .i64 0) := (blk_cell BK183.out 10).trans rfl
              have hfs98 := blk_frozen BK183.out 10
              have hns98_0 := NB145_183.out
              have hns98_1 := NB146_183.out
              have hns98_2 := NB163_183.out
              have hms98_0 := NB183_145.out
              have hms98_1 := NB183_146.out
              have hms98_2 := NB183_163.out
              have hs99 : w87.cell? ⟨gb183, 11, none⟩ = some (.int .i64 0) := (blk_cell BK183.out 11).trans rfl
              have hfs99 := blk_frozen BK183.out 11
              have hns99_0 := NB145_183.out
              have hns99_1 := NB146_183.out
              have hns99_2 := NB163_183.out
              have hms99_0 := NB183_145.out
              have hms99_1 := NB183_146.out
              have hms99_2 := NB183_163.out
              refine skip_ (w1 := ?_) (by rfl) rfl ?_ ?_
              rotate_left
              ·
               go_simp
               rfl
              refine hK.out _ _ ⟨((cell_far (p := ⟨gb183, _, none⟩) NB163_183.out _).trans (((cell_far (p := ⟨gb183, _, none⟩) NB163_183.out _).trans (((cell_far (p := ⟨gb183, _, none⟩) NB163_183.out _).trans (((cell_far (p := ⟨gb183, _, none⟩) NB163_183.out _).trans (((cell_far (p := ⟨gb183, _, none⟩) NB163_183.out _).trans (((cell_far (p := ⟨gb183, _, none⟩) NB163_183.out _).trans (((cell_far (p := ⟨gb183, _, none⟩) NB163_183.out _).trans (((cell_far (p := ⟨gb183, _, none⟩) NB163_183.out _).trans (((cell_far (p := ⟨gb183, _, none⟩) NB163_183.out _).trans (((cell_far (p := ⟨gb183, _, none⟩) NB163_183.out _).trans (((cell_far (p := ⟨gb183, _, none⟩) NB163_183.out _).trans (((cell_far (p := ⟨gb183, _, none⟩) NB163_183.out _).trans (hHeld.1)))))))))))))))))))))))), ((cell_far (p := ⟨gb183, _, none⟩) NB163_183.out _).trans (((cell_far (p := ⟨gb183, _, none⟩) NB163_183.out _).trans (((cell_far (p := ⟨gb183, _, none⟩) NB163_183.out _).trans (((cell_far (p := ⟨gb183, _, none⟩) NB163_183.out _).trans (((cell_far (p := ⟨gb183, _, none⟩) NB163_183.out _).trans (((cell_far (p := ⟨gb183, _, none⟩) NB163_183.out _).trans (((cell_far (p := ⟨gb183, _, none⟩) NB163_183.out _).trans (((cell_far (p := ⟨gb183, _, none⟩) NB163_183.out _).trans (((cell_far (p := ⟨gb183, _, none⟩) NB163_183.out _).trans (((cell_far (p := ⟨gb183, _, none⟩) NB163_183.out _).trans (((cell_far (p := ⟨gb183, _, none⟩) NB163_183.out _).trans (((cell_far (p := ⟨gb183, _, none⟩) NB163_183.out _).trans (hHeld.2.1)))))))))))))))))))))))), ((cell_far (p := ⟨gb183, _, none⟩) NB163_183.out _).trans (((cell_far (p := ⟨gb183, _, none⟩) NB163_183.out _).trans (((cell_far (p := ⟨gb183, _, none⟩) NB163_183.out _).trans (((cell_far (p := ⟨gb183, _, none⟩) NB163_183.out _).trans (((cell_far (p := ⟨gb183, _, none⟩) NB163_183.out _).trans (((cell_far (p := ⟨gb183, _, none⟩) NB163_183.out _).trans (((cell_far (p := ⟨gb183, _, none⟩) NB163_183.out _).trans (((cell_far (p := ⟨gb183, _, none⟩) NB163_183.out _).trans (((cell_far (p := ⟨gb183, _, none⟩) NB163_183.out _).trans (((cell_far (p := ⟨gb183, _, none⟩) NB163_183.out _).trans (((cell_far (p := ⟨gb183, _, none⟩) NB163_183.out _).trans (((cell_far (p := ⟨gb183, _, none⟩) NB163_183.out _).trans (hHeld.2.2.1)))))))))))))))))))))))), ((cell_far (p := ⟨gb183, _, none⟩) NB163_183.out _).trans (((cell_far (p := ⟨gb183, _, none⟩) NB163_183.out _).trans (((cell_far (p := ⟨gb183, _, none⟩) NB163_183.out _).trans (((cell_far (p := ⟨gb183, _, none⟩) NB163_183.out _).trans (((cell_far (p := ⟨gb183, _, none⟩) NB163_183.out _).trans (((cell_far (p := ⟨gb183, _, none⟩) NB163_183.out _).trans (((cell_far (p := ⟨gb183, _, none⟩) NB163_183.out _).trans (((cell_far (p := ⟨gb183, _, none⟩) NB163_183.out _).trans (((cell_far (p := ⟨gb183, _, none⟩) NB163_183.out _).trans (((cell_far (p := ⟨gb183, _, none⟩) NB163_183.out _).trans (((cell_far (p := ⟨gb183, _, none⟩) NB163_183.out _).trans (((cell_far (p := ⟨gb183, _, none⟩) NB163_183.out _).trans (hHeld.2.2.2.1)))))))))))))))))))))))), ((cell_far (p := ⟨gb183, _, none⟩) NB163_183.out _).trans (((cell_far (p := ⟨gb183, _, none⟩) NB163_183.out _).trans (((cell_far (p := ⟨gb183, _, none⟩) NB163_183.out _).trans (((cell_far (p := ⟨gb183, _, none⟩) NB163_183.out _).trans (((cell_far (p := ⟨gb183, _, none⟩) NB163_183.out _).trans (((cell_far (p := ⟨gb183, _, none⟩) NB163_183.out _).trans (((cell_far (p := ⟨gb183, _, none⟩) NB163_183.out _).trans (((cell_far (p := ⟨gb183, _, none⟩) NB163_183.out _).trans (((cell_far (p := ⟨gb183, _, none⟩) NB163_183.out _).trans (((cell_far (p := ⟨gb183, _, none⟩) NB163_183.out _).trans (((cell_far (p := ⟨gb183, _, none⟩) NB163_183.out _).trans (((cell_far (p := ⟨gb183, _, none⟩) NB163_183.out _).trans (hHeld.2.2.2.2.1)))))))))))))))))))))))), ((cell_far (p := ⟨gb183, _, none⟩) NB163_183.out _).trans (((cell_far (p := ⟨gb183, _, none⟩) NB163_183.out _).trans (((cell_far (p := ⟨gb183, _, none⟩) NB163_183.out _).trans (((cell_far (p := ⟨gb183, _, none⟩) NB163_183.out _).trans (((cell_far (p := ⟨gb183, _, none⟩) NB163_183.out _).trans (((cell_far (p := ⟨gb183, _, none⟩) NB163_183.out _).trans (((cell_far (p := ⟨gb183, _, none⟩) NB163_183.out _).trans (((cell_far (p := ⟨gb183, _, none⟩) NB163_183.out _).trans (((cell_far (p := ⟨gb183, _, none⟩) NB163_183.out _).trans (((cell_far (p := ⟨gb183, _, none⟩) NB163_183.out _).trans (((cell_far (p := ⟨gb183, _, none⟩) NB163_183.out _).trans (((cell_far (p := ⟨gb183, _, none⟩) NB163_183.out _).trans (hHeld.2.2.2.2.2.1)))))))))))))))))))))))), ((cell_far (p := ⟨gb183, _, none⟩) NB163_183.out _).trans (((cell_far (p := ⟨gb183, _, none⟩) NB163_183.out _).trans (((cell_far (p := ⟨gb183, _, none⟩) NB163_183.out _).trans (((cell_far (p := ⟨gb183, _, none⟩) NB163_183.out _).trans (((cell_far (p := ⟨gb183, _, none⟩) NB163_183.out _).trans (((cell_far (p := ⟨gb183, _, none⟩) NB163_183.out _).trans (((cell_far (p := ⟨gb183, _, none⟩) NB163_183.out _).trans (((cell_far (p := ⟨gb183, _, none⟩) NB163_183.out _).trans (((cell_far (p := ⟨gb183, _, none⟩) NB163_183.out _).trans (((cell_far (p := ⟨gb183, _, none⟩) NB163_183.out _).trans (((cell_far (p := ⟨gb183, _, none⟩) NB163_183.out _).trans (((cell_far (p := ⟨gb183, _, none⟩) NB163_183.out _).trans (hHeld.2.2.2.2.2.2.1)))))))))))))))))))))))), ((cell_far (p := ⟨gb183, _, none⟩) NB163_183.out _).trans (((cell_far (p := ⟨gb183, _, none⟩) NB163_183.out _).trans (((cell_far (p := ⟨gb183, _, none⟩) NB163_183.out _).trans (((cell_far (p := ⟨gb183, _, none⟩) NB163_183.out _).trans (((cell_far (p := ⟨gb183, _, none⟩) NB163_183.out _).trans (((cell_far (p := ⟨gb183, _, none⟩) NB163_183.out _).trans (((cell_far (p := ⟨gb183, _, none⟩) NB163_183.out _).trans (((cell_far (p := ⟨gb183, _, none⟩) NB163_183.out _).trans (((cell_far (p := ⟨gb183, _, none⟩) NB163_183.out _).trans (((cell_far (p := ⟨gb183, _, none⟩) NB163_183.out _).trans (((cell_far (p := ⟨gb183, _, none⟩) NB163_183.out _).trans (((cell_far (p := ⟨gb183, _, none⟩) NB163_183.out _).trans (hHeld.2.2.2.2.2.2.2.1)))))))))))))))))))))))), ((cell_far (p := ⟨gb183, _, none⟩) NB163_183.out _).trans (((cell_far (p := ⟨gb183, _, none⟩) NB163_183.out _).trans (((cell_far (p := ⟨gb183, _, none⟩) NB163_183.out _).trans (((cell_far (p := ⟨gb183, _, none⟩) NB163_183.out _).trans (((cell_far (p := ⟨gb183, _, none⟩) NB163_183.out _).trans (((cell_far (p := ⟨gb183, _, none⟩) NB163_183.out _).trans (((cell_far (p := ⟨gb183, _, none⟩) NB163_183.out _).trans (((cell_far (p := ⟨gb183, _, none⟩) NB163_183.out _).trans (((cell_far (p := ⟨gb183, _, none⟩) NB163_183.out _).trans (((cell_far (p := ⟨gb183, _, none⟩) NB163_183.out _).trans (((cell_far (p := ⟨gb183, _, none⟩) NB163_183.out _).trans (((cell_far (p := ⟨gb183, _, none⟩) NB163_183.out _).trans (hHeld.2.2.2.2.2.2.2.2.1)))))))))))))))))))))))), ((cell_far (p := ⟨gb183, _, none⟩) NB163_183.out _).trans (((cell_far (p := ⟨gb183, _, none⟩) NB163_183.out _).trans (((cell_far (p := ⟨gb183, _, none⟩) NB163_183.out _).trans (((cell_far (p := ⟨gb183, _, none⟩) NB163_183.out _).trans (((cell_far (p := ⟨gb183, _, none⟩) NB163_183.out _).trans (((cell_far (p := ⟨gb183, _, none⟩) NB163_183.out _).trans (((cell_far (p := ⟨gb183, _, none⟩) NB163_183.out _).trans (((cell_far (p := ⟨gb183, _, none⟩) NB163_183.out _).trans (((cell_far (p := ⟨gb183, _, none⟩) NB163_183.out _).trans (((cell_far (p := ⟨gb183, _, none⟩) NB163_183.out _).trans (((cell_far (p := ⟨gb183, _, none⟩) NB163_183.out _).trans (((cell_far (p := ⟨gb183, _, none⟩) NB163_183.out _).trans (hHeld.2.2.2.2.2.2.2.2.2.1)))))))))))))))))))))))), ((cell_far (p := ⟨gb183, _, none⟩) NB163_183.out _).trans (((cell_far (p := ⟨gb183, _, none⟩) NB163_183.out _).trans (((cell_far (p := ⟨gb183, _, none⟩) NB163_183.out _).trans (((cell_far (p := ⟨gb183, _, none⟩) NB163_183.out _).trans (((cell_far (p := ⟨gb183, _, none⟩) NB163_183.out _).trans (((cell_far (p := ⟨gb183, _, none⟩) NB163_183.out _).trans (((cell_far (p := ⟨gb183, _, none⟩) NB163_183.out _).trans (((cell_far (p := ⟨gb183, _, none⟩) NB163_183.out _).trans (((cell_far (p := ⟨gb183, _, none⟩) NB163_183.out _).trans (((cell_far (p := ⟨gb183, _, none⟩) NB163_183.out _).trans (((cell_far (p := ⟨gb183, _, none⟩) NB163_183.out _).trans (((cell_far (p := ⟨gb183, _, none⟩) NB163_183.out _).trans (hHeld.2.2.2.2.2.2.2.2.2.2.1)))))))))))))))))))))))), ((cell_far (p := ⟨gb183, _, none⟩) NB163_183.out _).trans (((cell_far (p := ⟨gb183, _, none⟩) NB163_183.out _).trans (((cell_far (p := ⟨gb183, _, none⟩) NB163_183.out _).trans (((cell_far (p := ⟨gb183, _, none⟩) NB163_183.out _).trans (((cell_far (p := ⟨gb183, _, none⟩) NB163_183.out _).trans (((cell_far (p := ⟨gb183, _, none⟩) NB163_183.out _).trans (((cell_far (p := ⟨gb183, _, none⟩) NB163_183.out _).trans (((cell_far (p := ⟨gb183, _, none⟩) NB163_183.out _).trans (((cell_far (p := ⟨gb183, _, none⟩) NB163_183.out _).trans (((cell_far (p := ⟨gb183, _, none⟩) NB163_183.out _).trans (((cell_far (p := ⟨gb183, _, none⟩) NB163_183.out _).trans (((cell_far (p := ⟨gb183, _, none⟩) NB163_183.out _).trans (hHeld.2.2.2.2.2.2.2.2.2.2.2.1)))))))))))))))))))))))), ((cell_far (p := ⟨gb183, _, none⟩) NB146_183.out _).trans (((cell_far (p := ⟨gb183, _, none⟩) NB146_183.out _).trans (((cell_far (p := ⟨gb183, _, none⟩) NB146_183.out _).trans (((cell_far (p := ⟨gb183, _, none⟩) NB146_183.out _).trans (((cell_far (p := ⟨gb183, _, none⟩) NB146_183.out _).trans (((cell_far (p := ⟨gb183, _, none⟩) NB146_183.out _).trans (((cell_far (p := ⟨gb183, _, none⟩) NB146_183.out _).trans (((cell_far (p := ⟨gb183, _, none⟩) NB146_183.out _).trans (((cell_far (p := ⟨gb183, _, none⟩) NB146_183.out _).trans (((cell_far (p := ⟨gb183, _, none⟩) NB146_183.out _).trans (((cell_far (p := ⟨gb183, _, none⟩) NB146_183.out _).trans (((cell_far (p := ⟨gb183, _, none⟩) NB146_183.out _).trans (hHeld.2.2.2.2.2.2.2.2.2.2.2.2.1)))))))))))))))))))))))), ((cell_far (p := ⟨gb183, _, none⟩) NB146_183.out _).trans (((cell_far (p := ⟨gb183, _, none⟩) NB146_183.out _).trans (((cell_far (p := ⟨gb183, _, none⟩) NB146_183.out _).trans (((cell_far (p := ⟨gb183, _, none⟩) NB146_183.out _).trans (((cell_far (p := ⟨gb183, _, none⟩) NB146_183.out _).trans (((cell_far (p := ⟨gb183, _, none⟩) NB146_183.out _).trans (((cell_far (p := ⟨gb183, _, none⟩) NB146_183.out _).trans (((cell_far (p := ⟨gb183, _, none⟩) NB146_183.out _).trans (((cell_far (p := ⟨gb183, _, none⟩) NB146_183.out _).trans (((cell_far (p := ⟨gb183, _, none⟩) NB146_183.out _).trans (((cell_far (p := ⟨gb183, _, none⟩) NB146_183.out _).trans (((cell_far (p := ⟨gb183, _, none⟩) NB146_183.out _).trans (hHeld.2.2.2.2.2.2.2.2.2.2.2.2.2.1)))))))))))))))))))))))), ((cell_far (p := ⟨gb183, _, none⟩) NB146_183.out _).trans (((cell_far (p := ⟨gb183, _, none⟩) NB146_183.out _).trans (((cell_far (p := ⟨gb183, _, none⟩) NB146_183.out _).trans (((cell_far (p := ⟨gb183, _, none⟩) NB146_183.out _).trans (((cell_far (p := ⟨gb183, _, none⟩) NB146_183.out _).trans (((cell_far (p := ⟨gb183, _, none⟩) NB146_183.out _).trans (((cell_far (p := ⟨gb183, _, none⟩) NB146_183.out _).trans (((cell_far (p := ⟨gb183, _, none⟩) NB146_183.out _).trans (((cell_far (p := ⟨gb183, _, none⟩) NB146_183.out _).trans (((cell_far (p := ⟨gb183, _, none⟩) NB146_183.out _).trans (((cell_far (p := ⟨gb183, _, none⟩) NB146_183.out _).trans (((cell_far (p := ⟨gb183, _, none⟩) NB146_183.out _).trans (hHeld.2.2.2.2.2.2.2.2.2.2.2.2.2.2.1)))))))))))))))))))))))), ((cell_far (p := ⟨gb183, _, none⟩) NB146_183.out _).trans (((cell_far (p := ⟨gb183, _, none⟩) NB146_183.out _).trans (((cell_far (p := ⟨gb183, _, none⟩) NB146_183.out _).trans (((cell_far (p := ⟨gb183, _, none⟩) NB146_183.out _).trans (((cell_far (p := ⟨gb183, _, none⟩) NB146_183.out _).trans (((cell_far (p := ⟨gb183, _, none⟩) NB146_183.out _).trans (((cell_far (p := ⟨gb183, _, none⟩) NB146_183.out _).trans (((cell_far (p := ⟨gb183, _, none⟩) NB146_183.out _).trans (((cell_far (p := ⟨gb183, _, none⟩) NB146_183.out _).trans (((cell_far (p := ⟨gb183, _, none⟩) NB146_183.out _).trans (((cell_far (p := ⟨gb183, _, none⟩) NB146_183.out _).trans (((cell_far (p := ⟨gb183, _, none⟩) NB146_183.out _).trans (hHeld.2.2.2.2.2.2.2.2.2.2.2.2.2.2.2.1)))))))))))))))))))))))), ((cell_far (p := ⟨gb183, _, none⟩) NB146_183.out _).trans (((cell_far (p := ⟨gb183, _, none⟩) NB146_183.out _).trans (((cell_far (p := ⟨gb183, _, none⟩) NB146_183.out _).trans (((cell_far (p := ⟨gb183, _, none⟩) NB146_183.out _).trans (((cell_far (p := ⟨gb183, _, none⟩) NB146_183.out _).trans (((cell_far (p := ⟨gb183, _, none⟩) NB146_183.out _).trans (((cell_far (p := ⟨gb183, _, none⟩) NB146_183.out _).trans (((cell_far (p := ⟨gb183, _, none⟩) NB146_183.out _).trans (((cell_far (p := ⟨gb183, _, none⟩) NB146_183.out _).trans (((cell_far (p := ⟨gb183, _, none⟩) NB146_183.out _).trans (((cell_far (p := ⟨gb183, _, none⟩) NB146_183.out _).trans (((cell_far (p := ⟨gb183, _, none⟩) NB146_183.out _).trans (hHeld.2.2.2.2.2.2.2.2.2.2.2.2.2.2.2.2))))))))))))))))))))))))⟩ (fun hHeld => ?_)
              clear hK K
              refine pure_ (i := 9) (N := some 13) (v := ?_) (a' := ?_) #[true, true, true, true, true, true, true, true, true, true] rfl rfl (any_of HT_.out (by kernel_rfl)) (fun _ _ _ h => h) (Or.inl ⟨by rfl, ?_⟩) ?_ ?_
              rotate_left
              ·
               intro w'
               go_simp
               with_reducible rfl
              rotate_left
              ·
               simp only [Act.put, List.setIfInBounds_toArray, List.set_cons_zero, List.set_cons_succ, i64_w, i32_w]
               rfl
              refine done_ (done_of HT_.out (by kernel_rfl)) ?_
              try go_wp2
              go_loopg [14] kj71 (fun kq v14 w' => ∃ (x14_5 : Int), v14 = .int .i64 x14_5 ∧ Aside0 (arrearslaw9_posted.l0 kq x14_5 a0_0 a0_1 a0_2 a0_3 a0_4 a0_5 a0_6 a0_7 a0_8 a0_9 a0_10 a0_11 t170 t171 t172 t173 t174 t175 t176 t177 t178 t179 t180 t181 = some r) ∧ Aside0 (kq ≤ kj71) ∧ Aside0 (w'.heap[gb145]? = some (.cells #[.int .i64 a0_0, .int .i64 a0_1, .int .i64 a0_2, .int .i64 a0_3, .int .i64 a0_4, .int .i64 a0_5, .int .i64 a0_6, .int .i64 a0_7, .int .i64 a0_8, .int .i64 a0_9, .int .i64 a0_10, .int .i64 a0_11] 43 (0, 0))) ∧ Aside0 (w'.heap[gb146]? = some (.cells #[.int .i64 a1_0, .int .i64 a1_1, .int .i64 a1_2, .int .i64 a1_3, .int .i64 a1_4] 28 (0, 0))) ∧ Aside0 (w'.heap[gb163]? = some (.cells #[.int .i64 t150, .int .i64 t151, .int .i64 t152, .int .i64 t153, .int .i64 t154, .int .i64 t155, .int .i64 t156, .int .i64 t157, .int .i64 t158, .int .i64 t159, .int .i64 t160, .int .i64 t161] 43 (0, 0))) ∧ Aside0 (w'.heap[gb183]? = some (.cells #[.int .i64 t170, .int .i64 t171, .int .i64 t172, .int .i64 t173, .int .i64 t174, .int .i64 t175, .int .i64 t176, .int .i64 t177, .int .i64 t178, .int .i64 t179, .int .i64 t180, .int .i64 t181] 43 (0, 0))) ∧ Aside0 (Below w.heap.size w w'))
              case atStart => exact ⟨(0), (by first | rfl | (simp; done) | (simp [*]; done)), H', ⟨Nat.le_refl _⟩, ⟨by (with_reducible repeat (first | refine blk_drewN ?_ _ | refine blk_drew ?_ | refine blk_alloc ?_ _)); refine blk_far ?_ NB145_183.out _; (with_reducible repeat (first | refine blk_drewN ?_ _ | refine blk_drew ?_ | refine blk_alloc ?_ _)); refine blk_far ?_ NB145_183.out _; (with_reducible repeat (first | refine blk_drewN ?_ _ | refine blk_drew ?_ | refine blk_alloc ?_ _)); refine blk_far ?_ NB145_183.out _; (with_reducible repeat (first | refine blk_drewN ?_ _ | refine blk_drew ?_ | refine blk_alloc ?_ _)); refine blk_far ?_ NB145_183.out _; (with_reducible repeat (first | refine blk_drewN ?_ _ | refine blk_drew ?_ | refine blk_alloc ?_ _)); refine blk_far ?_ NB145_183.out _; (with_reducible repeat (first | refine blk_drewN ?_ _ | refine blk_drew ?_ | refine blk_alloc ?_ _)); refine blk_far ?_ NB145_183.out _; (with_reducible repeat (first | refine blk_drewN ?_ _ | refine blk_drew ?_ | refine blk_alloc ?_ _)); refine blk_far ?_ NB145_183.out _; (with_reducible repeat (first | refine blk_drewN ?_ _ | refine blk_drew ?_ | refine blk_alloc ?_ _)); refine blk_far ?_ NB145_183.out _; (with_reducible repeat (first | refine blk_drewN ?_ _ | refine blk_drew ?_ | refine blk_alloc ?_ _)); refine blk_far ?_ NB145_183.out _; (with_reducible repeat (first | refine blk_drewN ?_ _ | refine blk_drew ?_ | refine blk_alloc ?_ _)); refine blk_far ?_ NB145_183.out _; (with_reducible repeat (first | refine blk_drewN ?_ _ | refine blk_drew ?_ | refine blk_alloc ?_ _)); refine blk_far ?_ NB145_183.out _; (with_reducible repeat (first | refine blk_drewN ?_ _ | refine blk_drew ?_ | refine blk_alloc ?_ _)); refine blk_far ?_ NB145_183.out _; (with_reducible repeat (first | refine blk_drewN ?_ _ | refine blk_drew ?_ | refine blk_alloc ?_ _)); exact BK145.out⟩, ⟨by (with_reducible repeat (first | refine blk_drewN ?_ _ | refine blk_drew ?_ | refine blk_alloc ?_ _)); refine blk_far ?_ NB146_183.out _; (with_reducible repeat (first | refine blk_drewN ?_ _ | refine blk_drew ?_ | refine blk_alloc ?_ _)); refine blk_far ?_ NB146_183.out _; (with_reducible repeat (first | refine blk_drewN ?_ _ | refine blk_drew ?_ | refine blk_alloc ?_ _)); refine blk_far ?_ NB146_183.out _; (with_reducible repeat (first | refine blk_drewN ?_ _ | refine blk_drew ?_ | refine blk_alloc ?_ _)); refine blk_far ?_ NB146_183.out _; (with_reducible repeat (first | refine blk_drewN ?_ _ | refine blk_drew ?_ | refine blk_alloc ?_ _)); refine blk_far ?_ NB146_183.out _; (with_reducible repeat (first | refine blk_drewN ?_ _ | refine blk_drew ?_ | refine blk_alloc ?_ _)); refine blk_far ?_ NB146_183.out _; (with_reducible repeat (first | refine blk_drewN ?_ _ | refine blk_drew ?_ | refine blk_alloc ?_ _)); refine blk_far ?_ NB146_183.out _; (with_reducible repeat (first | refine blk_drewN ?_ _ | refine blk_drew ?_ | refine blk_alloc ?_ _)); refine blk_far ?_ NB146_183.out _; (with_reducible repeat (first | refine blk_drewN ?_ _ | refine blk_drew ?_ | refine blk_alloc ?_ _)); refine blk_far ?_ NB146_183.out _; (with_reducible repeat (first | refine blk_drewN ?_ _ | refine blk_drew ?_ | refine blk_alloc ?_ _)); refine blk_far ?_ NB146_183.out _; (with_reducible repeat (first | refine blk_drewN ?_ _ | refine blk_drew ?_ | refine blk_alloc ?_ _)); refine blk_far ?_ NB146_183.out _; (with_reducible repeat (first | refine blk_drewN ?_ _ | refine blk_drew ?_ | refine blk_alloc ?_ _)); refine blk_far ?_ NB146_183.out _; (with_reducible repeat (first | refine blk_drewN ?_ _ | refine blk_drew ?_ | refine blk_alloc ?_ _)); exact BK146.out⟩, ⟨by (with_reducible repeat (first | refine blk_drewN ?_ _ | refine blk_drew ?_ | refine blk_alloc ?_ _)); refine blk_far ?_ NB163_183.out _; (with_reducible repeat (first | refine blk_drewN ?_ _ | refine blk_drew ?_ | refine blk_alloc ?_ _)); refine blk_far ?_ NB163_183.out _; (with_reducible repeat (first | refine blk_drewN ?_ _ | refine blk_drew ?_ | refine blk_alloc ?_ _)); refine blk_far ?_ NB163_183.out _; (with_reducible repeat (first | refine blk_drewN ?_ _ | refine blk_drew ?_ | refine blk_alloc ?_ _)); refine blk_far ?_ NB163_183.out _; (with_reducible repeat (first | refine blk_drewN ?_ _ | refine blk_drew ?_ | refine blk_alloc ?_ _)); refine blk_far ?_ NB163_183.out _; (with_reducible repeat (first | refine blk_drewN ?_ _ | refine blk_drew ?_ | refine blk_alloc ?_ _)); refine blk_far ?_ NB163_183.out _; (with_reducible repeat (first | refine blk_drewN ?_ _ | refine blk_drew ?_ | refine blk_alloc ?_ _)); refine blk_far ?_ NB163_183.out _; (with_reducible repeat (first | refine blk_drewN ?_ _ | refine blk_drew ?_ | refine blk_alloc ?_ _)); refine blk_far ?_ NB163_183.out _; (with_reducible repeat (first | refine blk_drewN ?_ _ | refine blk_drew ?_ | refine blk_alloc ?_ _)); refine blk_far ?_ NB163_183.out _; (with_reducible repeat (first | refine blk_drewN ?_ _ | refine blk_drew ?_ | refine blk_alloc ?_ _)); refine blk_far ?_ NB163_183.out _; (with_reducible repeat (first | refine blk_drewN ?_ _ | refine blk_drew ?_ | refine blk_alloc ?_ _)); refine blk_far ?_ NB163_183.out _; (with_reducible repeat (first | refine blk_drewN ?_ _ | refine blk_drew ?_ | refine blk_alloc ?_ _)); refine blk_far ?_ NB163_183.out _; (with_reducible repeat (first | refine blk_drewN ?_ _ | refine blk_drew ?_ | refine blk_alloc ?_ _)); exact BK163.out⟩, ⟨by (with_reducible repeat (first | refine blk_drewN ?_ _ | refine blk_drew ?_ | refine blk_alloc ?_ _)); refine blk_put (cs := #[.int .i64 t170, .int .i64 t171, .int .i64 t172, .int .i64 t173, .int .i64 t174, .int .i64 t175, .int .i64 t176, .int .i64 t177, .int .i64 t178, .int .i64 t179, .int .i64 t180, .int .i64 0]) ?_ 11 _ rfl; (with_reducible repeat (first | refine blk_drewN ?_ _ | refine blk_drew ?_ | refine blk_alloc ?_ _)); refine blk_put (cs := #[.int .i64 t170, .int .i64 t171, .int .i64 t172, .int .i64 t173, .int .i64 t174, .int .i64 t175, .int .i64 t176, .int .i64 t177, .int .i64 t178, .int .i64 t179, .int .i64 0, .int .i64 0]) ?_ 10 _ rfl; (with_reducible repeat (first | refine blk_drewN ?_ _ | refine blk_drew ?_ | refine blk_alloc ?_ _)); refine blk_put (cs := #[.int .i64 t170, .int .i64 t171, .int .i64 t172, .int .i64 t173, .int .i64 t174, .int .i64 t175, .int .i64 t176, .int .i64 t177, .int .i64 t178, .int .i64 0, .int .i64 0, .int .i64 0]) ?_ 9 _ rfl; (with_reducible repeat (first | refine blk_drewN ?_ _ | refine blk_drew ?_ | refine blk_alloc ?_ _)); refine blk_put (cs := #[.int .i64 t170, .int .i64 t171, .int .i64 t172, .int .i64 t173, .int .i64 t174, .int .i64 t175, .int .i64 t176, .int .i64 t177, .int .i64 0, .int .i64 0, .int .i64 0, .int .i64 0]) ?_ 8 _ rfl; (with_reducible repeat (first | refine blk_drewN ?_ _ | refine blk_drew ?_ | refine blk_alloc ?_ _)); refine blk_put (cs := #[.int .i64 t170, .int .i64 t171, .int .i64 t172, .int .i64 t173, .int .i64 t174, .int .i64 t175, .int .i64 t176, .int .i64 0, .int .i64 0, .int .i64 0, .int .i64 0, .int .i64 0]) ?_ 7 _ rfl; (with_reducible repeat (first | refine blk_drewN ?_ _ | refine blk_drew ?_ | refine blk_alloc ?_ _)); refine blk_put (cs := #[.int .i64 t170, .int .i64 t171, .int .i64 t172, .int .i64 t173, .int .i64 t174, .int .i64 t175, .int .i64 0, .int .i64 0, .int .i64 0, .int .i64 0, .int .i64 0, .int .i64 0]) ?_ 6 _ rfl; (with_reducible repeat (first | refine blk_drewN ?_ _ | refine blk_drew ?_ | refine blk_alloc ?_ _)); refine blk_put (cs := #[.int .i64 t170, .int .i64 t171, .int .i64 t172, .int .i64 t173, .int .i64 t174, .int .i64 0, .int .i64 0, .int .i64 0, .int .i64 0, .int .i64 0, .int .i64 0, .int .i64 0]) ?_ 5 _ rfl; (with_reducible repeat (first | refine blk_drewN ?_ _ | refine blk_drew ?_ | refine blk_alloc ?_ _)); refine blk_put (cs := #[.int .i64 t170, .int .i64 t171, .int .i64 t172, .int .i64 t173, .int .i64 0, .int .i64 0, .int .i64 0, .int .i64 0, .int .i64 0, .int .i64 0, .int .i64 0, .int .i64 0]) ?_ 4 _ rfl; (with_reducible repeat (first | refine blk_drewN ?_ _ | refine blk_drew ?_ | refine blk_alloc ?_ _)); refine blk_put (cs := #[.int .i64 t170, .int .i64 t171, .int .i64 t172, .int .i64 0, .int .i64 0, .int .i64 0, .int .i64 0, .int .i64 0, .int .i64 0, .int .i64 0, .int .i64 0, .int .i64 0]) ?_ 3 _ rfl; (with_reducible repeat (first | refine blk_drewN ?_ _ | refine blk_drew ?_ | refine blk_alloc ?_ _)); refine blk_put (cs := #[.int .i64 t170, .int .i64 t171, .int .i64 0, .int .i64 0, .int .i64 0, .int .i64 0, .int .i64 0, .int .i64 0, .int .i64 0, .int .i64 0, .int .i64 0, .int .i64 0]) ?_ 2 _ rfl; (with_reducible repeat (first | refine blk_drewN ?_ _ | refine blk_drew ?_ | refine blk_alloc ?_ _)); refine blk_put (cs := #[.int .i64 t170, .int .i64 0, .int .i64 0, .int .i64 0, .int .i64 0, .int .i64 0, .int .i64 0, .int .i64 0, .int .i64 0, .int .i64 0, .int .i64 0, .int .i64 0]) ?_ 1 _ rfl; (with_reducible repeat (first | refine blk_drewN ?_ _ | refine blk_drew ?_ | refine blk_alloc ?_ _)); refine blk_put (cs := #[.int .i64 0, .int .i64 0, .int .i64 0, .int .i64 0, .int .i64 0, .int .i64 0, .int .i64 0, .int .i64 0, .int .i64 0, .int .i64 0, .int .i64 0, .int .i64 0]) ?_ 0 _ rfl; (with_reducible repeat (first | refine blk_drewN ?_ _ | refine blk_drew ?_ | refine blk_alloc ?_ _)); exact BK183.out⟩, ⟨by repeat (first | (with_reducible first | exact HB.out | apply below_alloc | apply pw_below_drewN | apply below_drew1 | refine below_set ?_ (Aside0.out (by assumption))) | exact HB.out)⟩⟩
              case round =>
               clear H'
               (try clear c2); (try clear p2); (try clear c8); (try clear c20); (try clear c23); (try clear c81); (try clear c81b0); (try clear c81b1)
               obtain ⟨x14_5, rfl, HA, HK5, BK145, BK146, BK163, BK183, HB⟩ := hrel
               cases gk with
               | zero => exact absurd HA.out (by simp [arrearslaw9_posted.l0])
               | succ k5 =>
                have H := HA.out
                clear HA
                simp only [arrearslaw9_posted.l0] at H
                by_cases c100 : x14_5 < 12
                ·
                 rw [if_pos c100] at H
                 have c100b0 : decide (x14_5 < 12) = true := decide_eq_true c100
                 clear c100
                 by_cases c101 : 0 ≤ x14_5
                 ·
                  rw [if_pos c101] at H
                  have c101b0 : decide (0 ≤ x14_5) = true := decide_eq_true c101
                  clear c101
                  by_cases c102 : (selI [t170, t171, t172, t173, t174, t175, t176, t177, t178, t179, t180, t181] x14_5) = (selI [a0_0, a0_1, a0_2, a0_3, a0_4, a0_5, a0_6, a0_7, a0_8, a0_9, a0_10, a0_11] x14_5)
                  ·
                   rw [if_pos c102] at H
                   have c102b0 : ((selI [t170, t171, t172, t173, t174, t175, t176, t177, t178, t179, t180, t181] x14_5) == (selI [a0_0, a0_1, a0_2, a0_3, a0_4, a0_5, a0_6, a0_7, a0_8, a0_9, a0_10, a0_11] x14_5)) = true := beq_iff_eq.mpr c102
                   have c102b1 : ((selI [t170, t171, t172, t173, t174, t175, t176, t177, t178, t179, t180, t181] x14_5) != (selI [a0_0, a0_1, a0_2, a0_3, a0_4, a0_5, a0_6, a0_7, a0_8, a0_9, a0_10, a0_11] x14_5)) = false := bne_eq_false_iff_eq.mpr c102
                   clear c102
                   have H' := Aside0.mk H
                   clear H
                   try go_wp2
                   have n0_ := Aside0.mk (blk_drew BK145.out)
                   have n1_ := Aside0.mk (blk_drew BK146.out)
                   have n2_ := Aside0.mk (blk_drew BK163.out)
                   have n3_ := Aside0.mk (blk_drew BK183.out)
                   have n4_ := Aside0.mk (below_drew1 HB.out)
                   clear BK145
                   clear BK146
                   clear BK163
                   clear BK183
                   clear HB
                   have BK145 := n0_
                   have BK146 := n1_
                   have BK163 := n2_
                   have BK183 := n3_
                   have HB := n4_
                   clear n0_ n1_ n2_ n3_ n4_
                   have p184 : 0 ≤ (x14_5 : Int) := of_decide_eq_true (by first | (with_reducible assumption) | assumption)
                   have q184 : (x14_5 : Int) < 12 := of_decide_eq_true (by first | (with_reducible assumption) | assumption)
                   have P184 := Aside0.mk p184
                   have Q184 := Aside0.mk q184
                   have t184 := eq_true (show (x14_5 : Int).toNat < 12 by omega)
                   replace p184 := eq_true p184
                   replace q184 := eq_true q184
                   have p185 : 0 ≤ (x14_5 : Int) := of_decide_eq_true (by first | (with_reducible assumption) | assumption)
                   have q185 : (x14_5 : Int) < 12 := of_decide_eq_true (by first | (with_reducible assumption) | assumption)
                   have P185 := Aside0.mk p185
                   have Q185 := Aside0.mk q185
                   have t185 := eq_true (show (x14_5 : Int).toNat < 12 by omega)
                   replace p185 := eq_true p185
                   replace q185 := eq_true q185
                   refine start_ (n := 9) (S := fun w' => w'.cell? ⟨gb183, (x14_5 : Int).toNat, none⟩ = some (.int .i64 (selI [t170, t171, t172, t173, t174, t175, t176, t177, t178, t179, t180, t181] x14_5)) ∧ w'.cell? ⟨gb145, (x14_5 : Int).toNat, none⟩ = some (.int .i64 (selI [a0_0, a0_1, a0_2, a0_3, a0_4, a0_5, a0_6, a0_7, a0_8, a0_9, a0_10, a0_11] x14_5))) (ds := []) #[false, false, false, false, false, false, false, false, false] (by kernel_rfl) rfl rfl ⟨(blk_cell BK183.out ((x14_5 : Int).toNat)).trans (selI_at .i64 [t170, t171, t172, t173, t174, t175, t176, t177, t178, t179, t180, t181] x14_5 P184.out Q184.out), (blk_cell BK145.out ((x14_5 : Int).toNat)).trans (selI_at .i64 [a0_0, a0_1, a0_2, a0_3, a0_4, a0_5, a0_6, a0_7, a0_8, a0_9, a0_10, a0_11] x14_5 P185.out Q185.out)⟩ (fun hHeld => ?_); refine with_tabW arrearslaw9_posted.tab17 arrearslaw9_posted.bits17 (fun HT_ HW_ => ?_)
                   generalize wr.drew = w103 at BK145 BK146 BK163 BK183 HB hHeld ⊢
                   refine pure_ (i := 0) (N := some 117) (v := ?_) (a' := ?_) #[true, false, false, false, false, false, false, false, false] rfl rfl (any_of HT_.out (by kernel_rfl)) (fun _ _ _ h => h) (Or.inl ⟨by rfl, ?_⟩) ?_ ?_
                   rotate_left
                   ·
                    intro w'
                    go_simp
                    with_reducible rfl
                   rotate_left
                   ·
                    simp only [Act.put, List.setIfInBounds_toArray, List.set_cons_zero, List.set_cons_succ, i64_w, i32_w]
                    rfl
                   refine pure_ (i := 1) (N := some 118) (v := ?_) (a' := ?_) #[true, true, false, false, false, false, false, false, false] rfl rfl (any_of HT_.out (by kernel_rfl)) (fun _ _ _ h => h) (Or.inl ⟨by rfl, ?_⟩) ?_ ?_
                   rotate_left
                   ·
                    intro w'
                    go_simp
                    with_reducible rfl
                   rotate_left
                   ·
                    simp only [Act.put, List.setIfInBounds_toArray, List.set_cons_zero, List.set_cons_succ, i64_w, i32_w]
                    rfl
                   refine pure_ (i := 2) (N := some 119) (v := ?_) (a' := ?_) #[true, true, true, false, false, false, false, false, false] rfl rfl (any_of HT_.out (by kernel_rfl)) (fun _ _ _ h => h) (Or.inl ⟨by rfl, ?_⟩) ?_ ?_
                   rotate_left
                   ·
                    intro w'
                    go_simp
                    with_reducible rfl
                   rotate_left
                   ·
                    simp only [Act.put, List.setIfInBounds_toArray, List.set_cons_zero, List.set_cons_succ, i64_w, i32_w]
                    rfl
                   refine pure_ (i := 4) (N := some 121) (v := ?_) (a' := ?_) #[true, true, true, false, true, false, false, false, false] rfl rfl (any_of HT_.out (by kernel_rfl)) (fun _ _ _ h => h) (Or.inl ⟨by rfl, ?_⟩) ?_ ?_
                   rotate_left
                   ·
                    intro w'
                    go_simp
                    with_reducible rfl
                   rotate_left
                   ·
                    simp only [Act.put, List.setIfInBounds_toArray, List.set_cons_zero, List.set_cons_succ, i64_w, i32_w]
                    rfl
                   refine pure_ (i := 5) (N := some 122) (v := ?_) (a' := ?_) #[true, true, true, false, true, true, false, false, false] rfl rfl (any_of HT_.out (by kernel_rfl)) (fun _ _ _ h => h) (Or.inl ⟨by rfl, ?_⟩) ?_ ?_
                   rotate_left
                   ·
                    intro w'
                    go_simp
                    with_reducible rfl
                   rotate_left
                   ·
                    simp only [Act.put, List.setIfInBounds_toArray, List.set_cons_zero, List.set_cons_succ, i64_w, i32_w]
                    rfl
                   refine pure_ (i := 6) (N := some 123) (v := ?_) (a' := ?_) #[true, true, true, false, true, true, true, false, false] rfl rfl (any_of HT_.out (by kernel_rfl)) (fun _ _ _ h => h) (Or.inl ⟨by rfl, ?_⟩) ?_ ?_
                   rotate_left
                   ·
                    intro w'
                    go_simp
                    with_reducible rfl
                   rotate_left
                   ·
                    simp only [Act.put, List.setIfInBounds_toArray, List.set_cons_zero, List.set_cons_succ, i64_w, i32_w]
                    rfl
                   refine take_ (i := 3) (N := some 120) (v := ?_) (a' := ?_) #[true, true, true, true, true, true, true, false, false] rfl rfl (take_ofW HT_.out HW_.out (by kernel_rfl)) (fun _ _ _ h => h) (Or.inl ⟨by rfl, ?_⟩) hHeld ?_ ?_
                   rotate_left
                   ·
                    rintro w' ⟨s0, s1⟩
                    go_simp
                    with_reducible rfl
                   rotate_left
                   ·
                    simp only [Act.put, List.setIfInBounds_toArray, List.set_cons_zero, List.set_cons_succ, i64_w, i32_w]
                    rfl
                   refine take_ (i := 7) (N := some 124) (v := ?_) (a' := ?_) #[true, true, true, true, true, true, true, true, false] rfl rfl (take_ofW HT_.out HW_.out (by kernel_rfl)) (fun _ _ _ h => h) (Or.inl ⟨by rfl, ?_⟩) hHeld ?_ ?_
                   rotate_left
                   ·
                    rintro w' ⟨s0, s1⟩
                    go_simp
                    with_reducible rfl
                   rotate_left
                   ·
                    simp only [Act.put, List.setIfInBounds_toArray, List.set_cons_zero, List.set_cons_succ, i64_w, i32_w]
                    rfl
                   refine pure_ (i := 8) (N := some 125) (v := ?_) (a' := ?_) #[true, true, true, true, true, true, true, true, true] rfl rfl (any_of HT_.out (by kernel_rfl)) (fun _ _ _ h => h) (Or.inl ⟨by rfl, ?_⟩) ?_ ?_
                   rotate_left
                   ·
                    intro w'
                    go_simp
                    with_reducible rfl
                   rotate_left
                   ·
                    simp only [Act.put, List.setIfInBounds_toArray, List.set_cons_zero, List.set_cons_succ, i64_w, i32_w]
                    rfl
                   refine done_ (done_of HT_.out (by kernel_rfl)) ?_
                   try go_wp2
                   go_roundg k5
                   case measure => have := HJ5.out; have := HJ33.out; have := HJ55.out; have := HJ71.out; have := HK5.out; omega
                   case rel => exact ⟨(wrap64 (x14_5 + 1)), (by first | rfl | (simp; done) | (simp [*]; done)), H', ⟨by have := HJ5.out; have := HJ33.out; have := HJ55.out; have := HJ71.out; have := HK5.out; omega⟩, ⟨by (with_reducible repeat (first | refine blk_drewN ?_ _ | refine blk_drew ?_ | refine blk_alloc ?_ _)); exact BK145.out⟩, ⟨by (with_reducible repeat (first | refine blk_drewN ?_ _ | refine blk_drew ?_ | refine blk_alloc ?_ _)); exact BK146.out⟩, ⟨by (with_reducible repeat (first | refine blk_drewN ?_ _ | refine blk_drew ?_ | refine blk_alloc ?_ _)); exact BK163.out⟩, ⟨by (with_reducible repeat (first | refine blk_drewN ?_ _ | refine blk_drew ?_ | refine blk_alloc ?_ _)); exact BK183.out⟩, ⟨by repeat (first | (with_reducible first | exact HB.out | apply below_alloc | apply pw_below_drewN | apply below_drew1 | refine below_set ?_ (Aside0.out (by assumption))) | exact HB.out)⟩⟩
                  ·
                   rw [if_neg c102] at H
                   exact absurd H (by simp)
                 ·
                  rw [if_neg c101] at H
                  exact absurd H (by simp)
                ·
                 rw [if_neg c100] at H
                 have c100b0 : decide (x14_5 < 12) = false := decide_eq_false c100
                 clear c100
                 obtain rfl := Option.some.inj H
                 go_wp2
                 go_ret
                 exact ⟨by first | rfl | (simp [errW_none, errW_some] <;> rfl) | (simp [*, errW_none, errW_some] <;> rfl), by repeat (first | (with_reducible first | exact HB.out | apply below_alloc | apply pw_below_drewN | apply below_drew1 | refine below_set ?_ (Aside0.out (by assumption))) | exact HB.out)⟩
             ·
              rw [if_neg c81] at H
              exact absurd H (by simp)

end Go.Proofs.YtleeifpdgnjbdaaDoor.B
