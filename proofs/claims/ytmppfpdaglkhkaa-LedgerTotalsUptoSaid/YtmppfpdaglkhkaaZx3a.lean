import Derived.Test.YtmppfpdaglkhkaaZx0
import Derived.Test.YtmppfpdaglkhkaaZx1
import Derived.Test.YtmppfpdaglkhkaaZx2
namespace Go.Proofs.Ytmppfpdaglkhkaa.Z
open Go.RowKit Go.Proofs.YtmppfpdaglkhkaaW.PrintWords Go.Proofs.YtmppfpdaglkhkaaW.PrintLast Go.Proofs.YtmppfpdaglkhkaaW.PrintMore
attribute [local go_sem] max2_int min2_int max_two min_two max_three min_three max_four min_four   -- for this text's walks alone
set_option linter.unusedVariables false
set_option linter.unusedSimpArgs false

/-! ### arrearslaw8_LedgerTotals: function 4 -/
mutual
def arrearslaw8_LedgerTotals.l0 : Nat → List (S32) → List (S32) → List (S32) → Bool → Bool → Int → Int → Int → Int → Int → Int → Int → Int → Int → Int → Int → Int → Int → Int → Int → Int → Int → Int → Int → Int → Int → Int → Int → Int → Int → Int → Int → Int → Int → Int → Int → Int → Int → Int → Int → Int → Int → Option (Bool)
 | 0,_,_,_,_,_,_,_,_,_,_,_,_,_,_,_,_,_,_,_,_,_,_,_,_,_,_,_,_,_,_,_,_,_,_,_,_,_,_,_,_,_,_ => none
 | k + 1,x0,x3,x5,x7,x9,x10,x138000,x138001,x138002,x138003,x138004,x138005,x138006,x138007,x138008,x138009,x138010,x138011,x159000,x159001,x159002,x159003,x159004,x159005,x159006,x159007,x159008,x159009,x159010,x159011,x173000,x173001,x173002,x173003,x173004,x173005,x173006,x173007,x173008,x173009,x173010,x173011 => if x10 < (x0.length : Int) then (if 0 ≤ x10 then (if x10 < (x5.length : Int) then ((arrearslaw8_same.f k ((rd_T32 x5 x10).f0.f0) ((rd_T32 x5 x10).f0.f1) ((rd_T32 x5 x10).f0.f2) ((rd_T32 x5 x10).f0.f3) ((rd_T32 x5 x10).f0.f4) ((rd_T32 x5 x10).f0.f5) ((rd_T32 x5 x10).f0.f6) ((rd_T32 x5 x10).f0.f7) ((rd_T32 x5 x10).f0.f8) ((rd_T32 x5 x10).f0.f9) ((rd_T32 x5 x10).f0.f10) ((rd_T32 x5 x10).f0.f11) ((rd_T32 x0 x10).f0.f0) ((rd_T32 x0 x10).f0.f1) ((rd_T32 x0 x10).f0.f2) ((rd_T32 x0 x10).f0.f3) ((rd_T32 x0 x10).f0.f4) ((rd_T32 x0 x10).f0.f5) ((rd_T32 x0 x10).f0.f6) ((rd_T32 x0 x10).f0.f7) ((rd_T32 x0 x10).f0.f8) ((rd_T32 x0 x10).f0.f9) ((rd_T32 x0 x10).f0.f10) ((rd_T32 x0 x10).f0.f11)).bind fun t175 => (if t175 = true then (arrearslaw8_LedgerTotals.l0 k x0 x3 x5 x7 x9 (wrap64 (x10 + 1)) x138000 x138001 x138002 x138003 x138004 x138005 x138006 x138007 x138008 x138009 x138010 x138011 x159000 x159001 x159002 x159003 x159004 x159005 x159006 x159007 x159008 x159009 x159010 x159011 x173000 x173001 x173002 x173003 x173004 x173005 x173006 x173007 x173008 x173009 x173010 x173011) else (none))) else (none)) else (none)) else ((arrearslaw8_same.f k x159000 x159001 x159002 x159003 x159004 x159005 x159006 x159007 x159008 x159009 x159010 x159011 x173000 x173001 x173002 x173003 x173004 x173005 x173006 x173007 x173008 x173009 x173010 x173011).bind fun t176 => (if t176 = true then (if (x7 != x9) = true then (arrearslaw8_LedgerTotals.j1 k x0 x3 x5 true) else (if 0 ≤ (x0.length : Int) then (if (x0.length : Int) < (x3.length : Int) then ((arrearslaw8_same.f k ((rd_T32 x3 (x0.length : Int)).f0.f0) ((rd_T32 x3 (x0.length : Int)).f0.f1) ((rd_T32 x3 (x0.length : Int)).f0.f2) ((rd_T32 x3 (x0.length : Int)).f0.f3) ((rd_T32 x3 (x0.length : Int)).f0.f4) ((rd_T32 x3 (x0.length : Int)).f0.f5) ((rd_T32 x3 (x0.length : Int)).f0.f6) ((rd_T32 x3 (x0.length : Int)).f0.f7) ((rd_T32 x3 (x0.length : Int)).f0.f8) ((rd_T32 x3 (x0.length : Int)).f0.f9) ((rd_T32 x3 (x0.length : Int)).f0.f10) ((rd_T32 x3 (x0.length : Int)).f0.f11) x138000 x138001 x138002 x138003 x138004 x138005 x138006 x138007 x138008 x138009 x138010 x138011).bind fun t178 => (arrearslaw8_LedgerTotals.j1 k x0 x3 x5 (!t178))) else (none)) else (none))) else (arrearslaw8_LedgerTotals.j1 k x0 x3 x5 true)))
def arrearslaw8_LedgerTotals.j1 : Nat → List (S32) → List (S32) → List (S32) → Bool → Option (Bool)
 | 0,_,_,_,_ => none
 | k + 1,x0,x3,x5,x71 => if x71 = true then (none) else (if (x5.length : Int) ≤ (x3.length : Int) then (arrearslaw8_LedgerTotals.l1 k x0 (x3.take (x5.length : Int).toNat) ([] : List (S32)) 0) else (none))
def arrearslaw8_LedgerTotals.l1 : Nat → List (S32) → List (S32) → List (S32) → Int → Option (Bool)
 | 0,_,_,_,_ => none
 | k + 1,x0,x5,x11,x12 => if x12 < (x0.length : Int) then (if 0 ≤ x12 then (if x12 < (x5.length : Int) then (if 0 ≤ (Int.tmod x12 12) then (if (Int.tmod x12 12) < 12 then (if x11.length < 1466015503701 then (arrearslaw8_LedgerTotals.l1 k x0 (x5.set (x12 : Int).toNat (⟨(⟨putI (Int.tmod x12 12) 0 (wrap64 (Int.tdiv (selI [(rd_T32 x5 x12).f0.f0,(rd_T32 x5 x12).f0.f1,(rd_T32 x5 x12).f0.f2,(rd_T32 x5 x12).f0.f3,(rd_T32 x5 x12).f0.f4,(rd_T32 x5 x12).f0.f5,(rd_T32 x5 x12).f0.f6,(rd_T32 x5 x12).f0.f7,(rd_T32 x5 x12).f0.f8,(rd_T32 x5 x12).f0.f9,(rd_T32 x5 x12).f0.f10,(rd_T32 x5 x12).f0.f11] (Int.tmod x12 12)) 2)) ((rd_T32 x5 x12).f0.f0),putI (Int.tmod x12 12) 1 (wrap64 (Int.tdiv (selI [(rd_T32 x5 x12).f0.f0,(rd_T32 x5 x12).f0.f1,(rd_T32 x5 x12).f0.f2,(rd_T32 x5 x12).f0.f3,(rd_T32 x5 x12).f0.f4,(rd_T32 x5 x12).f0.f5,(rd_T32 x5 x12).f0.f6,(rd_T32 x5 x12).f0.f7,(rd_T32 x5 x12).f0.f8,(rd_T32 x5 x12).f0.f9,(rd_T32 x5 x12).f0.f10,(rd_T32 x5 x12).f0.f11] (Int.tmod x12 12)) 2)) ((rd_T32 x5 x12).f0.f1),putI (Int.tmod x12 12) 2 (wrap64 (Int.tdiv (selI [(rd_T32 x5 x12).f0.f0,(rd_T32 x5 x12).f0.f1,(rd_T32 x5 x12).f0.f2,(rd_T32 x5 x12).f0.f3,(rd_T32 x5 x12).f0.f4,(rd_T32 x5 x12).f0.f5,(rd_T32 x5 x12).f0.f6,(rd_T32 x5 x12).f0.f7,(rd_T32 x5 x12).f0.f8,(rd_T32 x5 x12).f0.f9,(rd_T32 x5 x12).f0.f10,(rd_T32 x5 x12).f0.f11] (Int.tmod x12 12)) 2)) ((rd_T32 x5 x12).f0.f2),putI (Int.tmod x12 12) 3 (wrap64 (Int.tdiv (selI [(rd_T32 x5 x12).f0.f0,(rd_T32 x5 x12).f0.f1,(rd_T32 x5 x12).f0.f2,(rd_T32 x5 x12).f0.f3,(rd_T32 x5 x12).f0.f4,(rd_T32 x5 x12).f0.f5,(rd_T32 x5 x12).f0.f6,(rd_T32 x5 x12).f0.f7,(rd_T32 x5 x12).f0.f8,(rd_T32 x5 x12).f0.f9,(rd_T32 x5 x12).f0.f10,(rd_T32 x5 x12).f0.f11] (Int.tmod x12 12)) 2)) ((rd_T32 x5 x12).f0.f3),putI (Int.tmod x12 12) 4 (wrap64 (Int.tdiv (selI [(rd_T32 x5 x12).f0.f0,(rd_T32 x5 x12).f0.f1,(rd_T32 x5 x12).f0.f2,(rd_T32 x5 x12).f0.f3,(rd_T32 x5 x12).f0.f4,(rd_T32 x5 x12).f0.f5,(rd_T32 x5 x12).f0.f6,(rd_T32 x5 x12).f0.f7,(rd_T32 x5 x12).f0.f8,(rd_T32 x5 x12).f0.f9,(rd_T32 x5 x12).f0.f10,(rd_T32 x5 x12).f0.f11] (Int.tmod x12 12)) 2)) ((rd_T32 x5 x12).f0.f4),putI (Int.tmod x12 12) 5 (wrap64 (Int.tdiv (selI [(rd_T32 x5 x12).f0.f0,(rd_T32 x5 x12).f0.f1,(rd_T32 x5 x12).f0.f2,(rd_T32 x5 x12).f0.f3,(rd_T32 x5 x12).f0.f4,(rd_T32 x5 x12).f0.f5,(rd_T32 x5 x12).f0.f6,(rd_T32 x5 x12).f0.f7,(rd_T32 x5 x12).f0.f8,(rd_T32 x5 x12).f0.f9,(rd_T32 x5 x12).f0.f10,(rd_T32 x5 x12).f0.f11] (Int.tmod x12 12)) 2)) ((rd_T32 x5 x12).f0.f5),putI (Int.tmod x12 12) 6 (wrap64 (Int.tdiv (selI [(rd_T32 x5 x12).f0.f0,(rd_T32 x5 x12).f0.f1,(rd_T32 x5 x12).f0.f2,(rd_T32 x5 x12).f0.f3,(rd_T32 x5 x12).f0.f4,(rd_T32 x5 x12).f0.f5,(rd_T32 x5 x12).f0.f6,(rd_T32 x5 x12).f0.f7,(rd_T32 x5 x12).f0.f8,(rd_T32 x5 x12).f0.f9,(rd_T32 x5 x12).f0.f10,(rd_T32 x5 x12).f0.f11] (Int.tmod x12 12)) 2)) ((rd_T32 x5 x12).f0.f6),putI (Int.tmod x12 12) 7 (wrap64 (Int.tdiv (selI [(rd_T32 x5 x12).f0.f0,(rd_T32 x5 x12).f0.f1,(rd_T32 x5 x12).f0.f2,(rd_T32 x5 x12).f0.f3,(rd_T32 x5 x12).f0.f4,(rd_T32 x5 x12).f0.f5,(rd_T32 x5 x12).f0.f6,(rd_T32 x5 x12).f0.f7,(rd_T32 x5 x12).f0.f8,(rd_T32 x5 x12).f0.f9,(rd_T32 x5 x12).f0.f10,(rd_T32 x5 x12).f0.f11] (Int.tmod x12 12)) 2)) ((rd_T32 x5 x12).f0.f7),putI (Int.tmod x12 12) 8 (wrap64 (Int.tdiv (selI [(rd_T32 x5 x12).f0.f0,(rd_T32 x5 x12).f0.f1,(rd_T32 x5 x12).f0.f2,(rd_T32 x5 x12).f0.f3,(rd_T32 x5 x12).f0.f4,(rd_T32 x5 x12).f0.f5,(rd_T32 x5 x12).f0.f6,(rd_T32 x5 x12).f0.f7,(rd_T32 x5 x12).f0.f8,(rd_T32 x5 x12).f0.f9,(rd_T32 x5 x12).f0.f10,(rd_T32 x5 x12).f0.f11] (Int.tmod x12 12)) 2)) ((rd_T32 x5 x12).f0.f8),putI (Int.tmod x12 12) 9 (wrap64 (Int.tdiv (selI [(rd_T32 x5 x12).f0.f0,(rd_T32 x5 x12).f0.f1,(rd_T32 x5 x12).f0.f2,(rd_T32 x5 x12).f0.f3,(rd_T32 x5 x12).f0.f4,(rd_T32 x5 x12).f0.f5,(rd_T32 x5 x12).f0.f6,(rd_T32 x5 x12).f0.f7,(rd_T32 x5 x12).f0.f8,(rd_T32 x5 x12).f0.f9,(rd_T32 x5 x12).f0.f10,(rd_T32 x5 x12).f0.f11] (Int.tmod x12 12)) 2)) ((rd_T32 x5 x12).f0.f9),putI (Int.tmod x12 12) 10 (wrap64 (Int.tdiv (selI [(rd_T32 x5 x12).f0.f0,(rd_T32 x5 x12).f0.f1,(rd_T32 x5 x12).f0.f2,(rd_T32 x5 x12).f0.f3,(rd_T32 x5 x12).f0.f4,(rd_T32 x5 x12).f0.f5,(rd_T32 x5 x12).f0.f6,(rd_T32 x5 x12).f0.f7,(rd_T32 x5 x12).f0.f8,(rd_T32 x5 x12).f0.f9,(rd_T32 x5 x12).f0.f10,(rd_T32 x5 x12).f0.f11] (Int.tmod x12 12)) 2)) ((rd_T32 x5 x12).f0.f10),putI (Int.tmod x12 12) 11 (wrap64 (Int.tdiv (selI [(rd_T32 x5 x12).f0.f0,(rd_T32 x5 x12).f0.f1,(rd_T32 x5 x12).f0.f2,(rd_T32 x5 x12).f0.f3,(rd_T32 x5 x12).f0.f4,(rd_T32 x5 x12).f0.f5,(rd_T32 x5 x12).f0.f6,(rd_T32 x5 x12).f0.f7,(rd_T32 x5 x12).f0.f8,(rd_T32 x5 x12).f0.f9,(rd_T32 x5 x12).f0.f10,(rd_T32 x5 x12).f0.f11] (Int.tmod x12 12)) 2)) ((rd_T32 x5 x12).f0.f11)⟩ : S30)⟩ : S32)) (x11 ++ [(⟨(⟨putI (Int.tmod x12 12) 0 (wrap64 (Int.tdiv (selI [(rd_T32 x5 x12).f0.f0,(rd_T32 x5 x12).f0.f1,(rd_T32 x5 x12).f0.f2,(rd_T32 x5 x12).f0.f3,(rd_T32 x5 x12).f0.f4,(rd_T32 x5 x12).f0.f5,(rd_T32 x5 x12).f0.f6,(rd_T32 x5 x12).f0.f7,(rd_T32 x5 x12).f0.f8,(rd_T32 x5 x12).f0.f9,(rd_T32 x5 x12).f0.f10,(rd_T32 x5 x12).f0.f11] (Int.tmod x12 12)) 2)) ((rd_T32 x5 x12).f0.f0),putI (Int.tmod x12 12) 1 (wrap64 (Int.tdiv (selI [(rd_T32 x5 x12).f0.f0,(rd_T32 x5 x12).f0.f1,(rd_T32 x5 x12).f0.f2,(rd_T32 x5 x12).f0.f3,(rd_T32 x5 x12).f0.f4,(rd_T32 x5 x12).f0.f5,(rd_T32 x5 x12).f0.f6,(rd_T32 x5 x12).f0.f7,(rd_T32 x5 x12).f0.f8,(rd_T32 x5 x12).f0.f9,(rd_T32 x5 x12).f0.f10,(rd_T32 x5 x12).f0.f11] (Int.tmod x12 12)) 2)) ((rd_T32 x5 x12).f0.f1),putI (Int.tmod x12 12) 2 (wrap64 (Int.tdiv (selI [(rd_T32 x5 x12).f0.f0,(rd_T32 x5 x12).f0.f1,(rd_T32 x5 x12).f0.f2,(rd_T32 x5 x12).f0.f3,(rd_T32 x5 x12).f0.f4,(rd_T32 x5 x12).f0.f5,(rd_T32 x5 x12).f0.f6,(rd_T32 x5 x12).f0.f7,(rd_T32 x5 x12).f0.f8,(rd_T32 x5 x12).f0.f9,(rd_T32 x5 x12).f0.f10,(rd_T32 x5 x12).f0.f11] (Int.tmod x12 12)) 2)) ((rd_T32 x5 x12).f0.f2),putI (Int.tmod x12 12) 3 (wrap64 (Int.tdiv (selI [(rd_T32 x5 x12).f0.f0,(rd_T32 x5 x12).f0.f1,(rd_T32 x5 x12).f0.f2,(rd_T32 x5 x12).f0.f3,(rd_T32 x5 x12).f0.f4,(rd_T32 x5 x12).f0.f5,(rd_T32 x5 x12).f0.f6,(rd_T32 x5 x12).f0.f7,(rd_T32 x5 x12).f0.f8,(rd_T32 x5 x12).f0.f9,(rd_T32 x5 x12).f0.f10,(rd_T32 x5 x12).f0.f11] (Int.tmod x12 12)) 2)) ((rd_T32 x5 x12).f0.f3),putI (Int.tmod x12 12) 4 (wrap64 (Int.tdiv (selI [(rd_T32 x5 x12).f0.f0,(rd_T32 x5 x12).f0.f1,(rd_T32 x5 x12).f0.f2,(rd_T32 x5 x12).f0.f3,(rd_T32 x5 x12).f0.f4,(rd_T32 x5 x12).f0.f5,(rd_T32 x5 x12).f0.f6,(rd_T32 x5 x12).f0.f7,(rd_T32 x5 x12).f0.f8,(rd_T32 x5 x12).f0.f9,(rd_T32 x5 x12).f0.f10,(rd_T32 x5 x12).f0.f11] (Int.tmod x12 12)) 2)) ((rd_T32 x5 x12).f0.f4),putI (Int.tmod x12 12) 5 (wrap64 (Int.tdiv (selI [(rd_T32 x5 x12).f0.f0,(rd_T32 x5 x12).f0.f1,(rd_T32 x5 x12).f0.f2,(rd_T32 x5 x12).f0.f3,(rd_T32 x5 x12).f0.f4,(rd_T32 x5 x12).f0.f5,(rd_T32 x5 x12).f0.f6,(rd_T32 x5 x12).f0.f7,(rd_T32 x5 x12).f0.f8,(rd_T32 x5 x12).f0.f9,(rd_T32 x5 x12).f0.f10,(rd_T32 x5 x12).f0.f11] (Int.tmod x12 12)) 2)) ((rd_T32 x5 x12).f0.f5),putI (Int.tmod x12 12) 6 (wrap64 (Int.tdiv (selI [(rd_T32 x5 x12).f0.f0,(rd_T32 x5 x12).f0.f1,(rd_T32 x5 x12).f0.f2,(rd_T32 x5 x12).f0.f3,(rd_T32 x5 x12).f0.f4,(rd_T32 x5 x12).f0.f5,(rd_T32 x5 x12).f0.f6,(rd_T32 x5 x12).f0.f7,(rd_T32 x5 x12).f0.f8,(rd_T32 x5 x12).f0.f9,(rd_T32 x5 x12).f0.f10,(rd_T32 x5 x12).f0.f11] (Int.tmod x12 12)) 2)) ((rd_T32 x5 x12).f0.f6),putI (Int.tmod x12 12) 7 (wrap64 (Int.tdiv (selI [(rd_T32 x5 x12).f0.f0,(rd_T32 x5 x12).f0.f1,(rd_T32 x5 x12).f0.f2,(rd_T32 x5 x12).f0.f3,(rd_T32 x5 x12).f0.f4,(rd_T32 x5 x12).f0.f5,(rd_T32 x5 x12).f0.f6,(rd_T32 x5 x12).f0.f7,(rd_T32 x5 x12).f0.f8,(rd_T32 x5 x12).f0.f9,(rd_T32 x5 x12).f0.f10,(rd_T32 x5 x12).f0.f11] (Int.tmod x12 12)) 2)) ((rd_T32 x5 x12).f0.f7),putI (Int.tmod x12 12) 8 (wrap64 (Int.tdiv (selI [(rd_T32 x5 x12).f0.f0,(rd_T32 x5 x12).f0.f1,(rd_T32 x5 x12).f0.f2,(rd_T32 x5 x12).f0.f3,(rd_T32 x5 x12).f0.f4,(rd_T32 x5 x12).f0.f5,(rd_T32 x5 x12).f0.f6,(rd_T32 x5 x12).f0.f7,(rd_T32 x5 x12).f0.f8,(rd_T32 x5 x12).f0.f9,(rd_T32 x5 x12).f0.f10,(rd_T32 x5 x12).f0.f11] (Int.tmod x12 12)) 2)) ((rd_T32 x5 x12).f0.f8),putI (Int.tmod x12 12) 9 (wrap64 (Int.tdiv (selI [(rd_T32 x5 x12).f0.f0,(rd_T32 x5 x12).f0.f1,(rd_T32 x5 x12).f0.f2,(rd_T32 x5 x12).f0.f3,(rd_T32 x5 x12).f0.f4,(rd_T32 x5 x12).f0.f5,(rd_T32 x5 x12).f0.f6,(rd_T32 x5 x12).f0.f7,(rd_T32 x5 x12).f0.f8,(rd_T32 x5 x12).f0.f9,(rd_T32 x5 x12).f0.f10,(rd_T32 x5 x12).f0.f11] (Int.tmod x12 12)) 2)) ((rd_T32 x5 x12).f0.f9),putI (Int.tmod x12 12) 10 (wrap64 (Int.tdiv (selI [(rd_T32 x5 x12).f0.f0,(rd_T32 x5 x12).f0.f1,(rd_T32 x5 x12).f0.f2,(rd_T32 x5 x12).f0.f3,(rd_T32 x5 x12).f0.f4,(rd_T32 x5 x12).f0.f5,(rd_T32 x5 x12).f0.f6,(rd_T32 x5 x12).f0.f7,(rd_T32 x5 x12).f0.f8,(rd_T32 x5 x12).f0.f9,(rd_T32 x5 x12).f0.f10,(rd_T32 x5 x12).f0.f11] (Int.tmod x12 12)) 2)) ((rd_T32 x5 x12).f0.f10),putI (Int.tmod x12 12) 11 (wrap64 (Int.tdiv (selI [(rd_T32 x5 x12).f0.f0,(rd_T32 x5 x12).f0.f1,(rd_T32 x5 x12).f0.f2,(rd_T32 x5 x12).f0.f3,(rd_T32 x5 x12).f0.f4,(rd_T32 x5 x12).f0.f5,(rd_T32 x5 x12).f0.f6,(rd_T32 x5 x12).f0.f7,(rd_T32 x5 x12).f0.f8,(rd_T32 x5 x12).f0.f9,(rd_T32 x5 x12).f0.f10,(rd_T32 x5 x12).f0.f11] (Int.tmod x12 12)) 2)) ((rd_T32 x5 x12).f0.f11)⟩ : S30)⟩ : S32)]) (wrap64 (x12 + 1))) else (none)) else (none)) else (none)) else (none)) else (none)) else ((ledger_Total.f k x5).bind fun bt190 => ((arrearsref8_Total.f k x11).bind fun bt203 => ((arrearslaw8_same.f k bt190.1 bt190.2.1 bt190.2.2.1 bt190.2.2.2.1 bt190.2.2.2.2.1 bt190.2.2.2.2.2.1 bt190.2.2.2.2.2.2.1 bt190.2.2.2.2.2.2.2.1 bt190.2.2.2.2.2.2.2.2.1 bt190.2.2.2.2.2.2.2.2.2.1 bt190.2.2.2.2.2.2.2.2.2.2.1 bt190.2.2.2.2.2.2.2.2.2.2.2.1 bt203.1 bt203.2.1 bt203.2.2.1 bt203.2.2.2.1 bt203.2.2.2.2.1 bt203.2.2.2.2.2.1 bt203.2.2.2.2.2.2.1 bt203.2.2.2.2.2.2.2.1 bt203.2.2.2.2.2.2.2.2.1 bt203.2.2.2.2.2.2.2.2.2.1 bt203.2.2.2.2.2.2.2.2.2.2.1 bt203.2.2.2.2.2.2.2.2.2.2.2.1).bind fun t216 => (if t216 = true then (some (bt190.2.2.2.2.2.2.2.2.2.2.2.2 == bt203.2.2.2.2.2.2.2.2.2.2.2.2)) else (none)))))
end
def arrearslaw8_LedgerTotals.f (k : Nat) (l0 : List (S32)) : Option (Bool) := if ([] : List (S32)).length + l0.length < 1466015503701 then ((some (([] : List (S32)) ++ l0 : List (S32))).bind fun y134 => (if y134.length < 1466015503701 then ((some (y134 ++ [(⟨(⟨0,0,0,0,0,(-77),0,0,0,0,0,0⟩ : S30)⟩ : S32)] : List (S32))).bind fun y138 => (if 0 ≤ (l0.length : Int) then (if (l0.length : Int) ≤ (y138.length : Int) then ((some (y138.take ((l0.length : Int) : Int).toNat : List (S32))).bind fun y141 => ((ledger_Total.f k y141).bind fun bt145 => ((arrearsref8_Total.f k l0).bind fun bt159 => (arrearslaw8_LedgerTotals.l0 k l0 y138 y141 bt145.2.2.2.2.2.2.2.2.2.2.2.2 bt159.2.2.2.2.2.2.2.2.2.2.2.2 0 0 0 0 0 0 (-77) 0 0 0 0 0 0 bt145.1 bt145.2.1 bt145.2.2.1 bt145.2.2.2.1 bt145.2.2.2.2.1 bt145.2.2.2.2.2.1 bt145.2.2.2.2.2.2.1 bt145.2.2.2.2.2.2.2.1 bt145.2.2.2.2.2.2.2.2.1 bt145.2.2.2.2.2.2.2.2.2.1 bt145.2.2.2.2.2.2.2.2.2.2.1 bt145.2.2.2.2.2.2.2.2.2.2.2.1 bt159.1 bt159.2.1 bt159.2.2.1 bt159.2.2.2.1 bt159.2.2.2.2.1 bt159.2.2.2.2.2.1 bt159.2.2.2.2.2.2.1 bt159.2.2.2.2.2.2.2.1 bt159.2.2.2.2.2.2.2.2.1 bt159.2.2.2.2.2.2.2.2.2.1 bt159.2.2.2.2.2.2.2.2.2.2.1 bt159.2.2.2.2.2.2.2.2.2.2.2.1)))) else (none)) else (none))) else (none))) else (none)
theorem arrearslaw8_LedgerTotals.mono_l : ∀ k,(∀ y0 y1 y2 y3 y4 y5 y6 y7 y8 y9 y10 y11 y12 y13 y14 y15 y16 y17 y18 y19 y20 y21 y22 y23 y24 y25 y26 y27 y28 y29 y30 y31 y32 y33 y34 y35 y36 y37 y38 y39 y40 y41,LeO (arrearslaw8_LedgerTotals.l0 k y0 y1 y2 y3 y4 y5 y6 y7 y8 y9 y10 y11 y12 y13 y14 y15 y16 y17 y18 y19 y20 y21 y22 y23 y24 y25 y26 y27 y28 y29 y30 y31 y32 y33 y34 y35 y36 y37 y38 y39 y40 y41) (arrearslaw8_LedgerTotals.l0 (k + 1) y0 y1 y2 y3 y4 y5 y6 y7 y8 y9 y10 y11 y12 y13 y14 y15 y16 y17 y18 y19 y20 y21 y22 y23 y24 y25 y26 y27 y28 y29 y30 y31 y32 y33 y34 y35 y36 y37 y38 y39 y40 y41)) ∧ (∀ y0 y1 y2 y3,LeO (arrearslaw8_LedgerTotals.j1 k y0 y1 y2 y3) (arrearslaw8_LedgerTotals.j1 (k + 1) y0 y1 y2 y3)) ∧ (∀ y0 y1 y2 y3,LeO (arrearslaw8_LedgerTotals.l1 k y0 y1 y2 y3) (arrearslaw8_LedgerTotals.l1 (k + 1) y0 y1 y2 y3))
 | 0 => ⟨fun _ _ _ _ _ _ _ _ _ _ _ _ _ _ _ _ _ _ _ _ _ _ _ _ _ _ _ _ _ _ _ _ _ _ _ _ _ _ _ _ _ _ r h => by simp [arrearslaw8_LedgerTotals.l0] at h,fun _ _ _ _ r h => by simp [arrearslaw8_LedgerTotals.j1] at h,fun _ _ _ _ r h => by simp [arrearslaw8_LedgerTotals.l1] at h⟩
 | k + 1 => by
  obtain ⟨ih0,ih1,ih2⟩ := arrearslaw8_LedgerTotals.mono_l k
  refine ⟨?_,?_,?_⟩
  ·
   intro y0 y1 y2 y3 y4 y5 y6 y7 y8 y9 y10 y11 y12 y13 y14 y15 y16 y17 y18 y19 y20 y21 y22 y23 y24 y25 y26 y27 y28 y29 y30 y31 y32 y33 y34 y35 y36 y37 y38 y39 y40 y41
   unfold arrearslaw8_LedgerTotals.l0
   repeat' first
   | (with_reducible exact ih0 _ _ _ _ _ _ _ _ _ _ _ _ _ _ _ _ _ _ _ _ _ _ _ _ _ _ _ _ _ _ _ _ _ _ _ _ _ _ _ _ _ _)
   | (with_reducible exact ih1 _ _ _ _)
   | (with_reducible exact ih2 _ _ _ _)
   | (with_reducible exact arrearslaw8_same.mono _ _ _ _ _ _ _ _ _ _ _ _ _ _ _ _ _ _ _ _ _ _ _ _ _)
   | (with_reducible exact arrearsref8_Total.mono _ _)
   | (with_reducible exact ledger_Total.mono _ _)
   | (with_reducible exact LeO.refl _)
   | (with_reducible exact LeO.none _)
   | (with_reducible refine LeO.ite ?_ ?_)
   | (with_reducible refine LeO.bind ?_ (fun _ => ?_))
   | exact ih0 _ _ _ _ _ _ _ _ _ _ _ _ _ _ _ _ _ _ _ _ _ _ _ _ _ _ _ _ _ _ _ _ _ _ _ _ _ _ _ _ _ _
   | exact ih1 _ _ _ _
   | exact ih2 _ _ _ _
   | exact arrearslaw8_same.mono _ _ _ _ _ _ _ _ _ _ _ _ _ _ _ _ _ _ _ _ _ _ _ _ _
   | exact arrearsref8_Total.mono _ _
   | exact ledger_Total.mono _ _
   | exact LeO.none _
   | refine LeO.ite ?_ ?_
   | refine LeO.bind ?_ (fun _ => ?_)
  ·
   intro y0 y1 y2 y3
   unfold arrearslaw8_LedgerTotals.j1
   repeat' first
   | (with_reducible exact ih0 _ _ _ _ _ _ _ _ _ _ _ _ _ _ _ _ _ _ _ _ _ _ _ _ _ _ _ _ _ _ _ _ _ _ _ _ _ _ _ _ _ _)
   | (with_reducible exact ih1 _ _ _ _)
   | (with_reducible exact ih2 _ _ _ _)
   | (with_reducible exact arrearslaw8_same.mono _ _ _ _ _ _ _ _ _ _ _ _ _ _ _ _ _ _ _ _ _ _ _ _ _)
   | (with_reducible exact arrearsref8_Total.mono _ _)
   | (with_reducible exact ledger_Total.mono _ _)
   | (with_reducible exact LeO.refl _)
   | (with_reducible exact LeO.none _)
   | (with_reducible refine LeO.ite ?_ ?_)
   | (with_reducible refine LeO.bind ?_ (fun _ => ?_))
   | exact ih0 _ _ _ _ _ _ _ _ _ _ _ _ _ _ _ _ _ _ _ _ _ _ _ _ _ _ _ _ _ _ _ _ _ _ _ _ _ _ _ _ _ _
   | exact ih1 _ _ _ _
   | exact ih2 _ _ _ _
   | exact arrearslaw8_same.mono _ _ _ _ _ _ _ _ _ _ _ _ _ _ _ _ _ _ _ _ _ _ _ _ _
   | exact arrearsref8_Total.mono _ _
   | exact ledger_Total.mono _ _
   | exact LeO.none _
   | refine LeO.ite ?_ ?_
   | refine LeO.bind ?_ (fun _ => ?_)
  ·
   intro y0 y1 y2 y3
   unfold arrearslaw8_LedgerTotals.l1
   repeat' first
   | (with_reducible exact ih0 _ _ _ _ _ _ _ _ _ _ _ _ _ _ _ _ _ _ _ _ _ _ _ _ _ _ _ _ _ _ _ _ _ _ _ _ _ _ _ _ _ _)
   | (with_reducible exact ih1 _ _ _ _)
   | (with_reducible exact ih2 _ _ _ _)
   | (with_reducible exact arrearslaw8_same.mono _ _ _ _ _ _ _ _ _ _ _ _ _ _ _ _ _ _ _ _ _ _ _ _ _)
   | (with_reducible exact arrearsref8_Total.mono _ _)
   | (with_reducible exact ledger_Total.mono _ _)
   | (with_reducible exact LeO.refl _)
   | (with_reducible exact LeO.none _)
   | (with_reducible refine LeO.ite ?_ ?_)
   | (with_reducible refine LeO.bind ?_ (fun _ => ?_))
   | exact ih0 _ _ _ _ _ _ _ _ _ _ _ _ _ _ _ _ _ _ _ _ _ _ _ _ _ _ _ _ _ _ _ _ _ _ _ _ _ _ _ _ _ _
   | exact ih1 _ _ _ _
   | exact ih2 _ _ _ _
   | exact arrearslaw8_same.mono _ _ _ _ _ _ _ _ _ _ _ _ _ _ _ _ _ _ _ _ _ _ _ _ _
   | exact arrearsref8_Total.mono _ _
   | exact ledger_Total.mono _ _
   | exact LeO.none _
   | refine LeO.ite ?_ ?_
   | refine LeO.bind ?_ (fun _ => ?_)
theorem arrearslaw8_LedgerTotals.mono : ∀ a0 k,LeO (arrearslaw8_LedgerTotals.f k a0) (arrearslaw8_LedgerTotals.f (k + 1) a0) := by
 intro a0 k
 obtain ⟨ih0,ih1,ih2⟩ := arrearslaw8_LedgerTotals.mono_l k
 unfold arrearslaw8_LedgerTotals.f
 repeat' first
   | (with_reducible exact ih0 _ _ _ _ _ _ _ _ _ _ _ _ _ _ _ _ _ _ _ _ _ _ _ _ _ _ _ _ _ _ _ _ _ _ _ _ _ _ _ _ _ _)
   | (with_reducible exact ih1 _ _ _ _)
   | (with_reducible exact ih2 _ _ _ _)
   | (with_reducible exact arrearslaw8_same.mono _ _ _ _ _ _ _ _ _ _ _ _ _ _ _ _ _ _ _ _ _ _ _ _ _)
   | (with_reducible exact arrearsref8_Total.mono _ _)
   | (with_reducible exact ledger_Total.mono _ _)
   | (with_reducible exact LeO.refl _)
   | (with_reducible exact LeO.none _)
   | (with_reducible refine LeO.ite ?_ ?_)
   | (with_reducible refine LeO.bind ?_ (fun _ => ?_))
   | exact ih0 _ _ _ _ _ _ _ _ _ _ _ _ _ _ _ _ _ _ _ _ _ _ _ _ _ _ _ _ _ _ _ _ _ _ _ _ _ _ _ _ _ _
   | exact ih1 _ _ _ _
   | exact ih2 _ _ _ _
   | exact arrearslaw8_same.mono _ _ _ _ _ _ _ _ _ _ _ _ _ _ _ _ _ _ _ _ _ _ _ _ _
   | exact arrearsref8_Total.mono _ _
   | exact ledger_Total.mono _ _
   | exact LeO.none _
   | refine LeO.ite ?_ ?_
   | refine LeO.bind ?_ (fun _ => ?_)
def arrearslaw8_LedgerTotals.T12 : Bool × List (List Nat × List Nat) := (true, [([], []),([], []),([0,1], [0,1]),([2], [2]),([], []),([], []),([4,5], [4,5]),([6], [6]),([3,7], [3,7]),([8], [8])])
def arrearslaw8_LedgerTotals.B12 : List Nat := [0,0,3,7,0,0,48,112,255,511]
theorem arrearslaw8_LedgerTotals.tab12 : rtab .any (opsOf Try.f4 12) = arrearslaw8_LedgerTotals.T12 := by kernel_rfl
theorem arrearslaw8_LedgerTotals.bits12 : waitsOk arrearslaw8_LedgerTotals.T12.2 arrearslaw8_LedgerTotals.B12 = true := by kernel_rfl
def arrearslaw8_LedgerTotals.T14 : Bool × List (List Nat × List Nat) := (true, [([], []),([], []),([0,1], [0,1]),([2], [2]),([3,2], [3]),([4], [4]),([4], [4]),([5,6,4], [4,5,6]),([4,7], [4,7]),([8,4], [8]),([9], [9]),([9], [9]),([11,9], [9,11]),([10,12,9], [9,10,12]),([13,9], [9,13]),([9], [9]),([14,15,9,9], [9,14,15]),([16,9], [9,16]),([9,17], [9,17])])
def arrearslaw8_LedgerTotals.B14 : List Nat := [0,0,3,7,15,31,31,127,255,511,1023,1023,3071,8191,16383,1023,65535,131071,262143]
theorem arrearslaw8_LedgerTotals.tab14 : rtab .any (opsOf Try.f4 14) = arrearslaw8_LedgerTotals.T14 := by kernel_rfl
theorem arrearslaw8_LedgerTotals.bits14 : waitsOk arrearslaw8_LedgerTotals.T14.2 arrearslaw8_LedgerTotals.B14 = true := by kernel_rfl
def arrearslaw8_LedgerTotals.T20 : Bool × List (List Nat × List Nat) := (true, [([], []),([], []),([], []),([2], [2]),([], []),([], []),([], []),([6], [6]),([4,5], [4,5]),([8], [8]),([9,7], [7,9]),([10], [10]),([11], [11]),([0,1], [0,1]),([13], [13]),([14,3,0,1,2,3,4,5,6,7,8,9,10,11,12], [3,14]),([15,12,0,1,2,3,4,5,6,7,8,9,10,11,12], [12,15])])
def arrearslaw8_LedgerTotals.B20 : List Nat := [0,0,0,4,0,0,0,64,48,304,1008,2032,4080,3,8195,32767,65535]
theorem arrearslaw8_LedgerTotals.tab20 : rtab .any (opsOf Try.f4 20) = arrearslaw8_LedgerTotals.T20 := by kernel_rfl
theorem arrearslaw8_LedgerTotals.bits20 : waitsOk arrearslaw8_LedgerTotals.T20.2 arrearslaw8_LedgerTotals.B20 = true := by kernel_rfl
end Go.Proofs.Ytmppfpdaglkhkaa.Z
