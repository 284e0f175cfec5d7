/- For all whole numbers left and amount: waterfall.Recover gives the parts and the error that the document's answer gives. No condition. -/
import Derived.Test.YtleeifpdgnjbdaaPWaterfallRecoversx1
namespace Go.Proofs.Ytleeifpdgnjbdaa.Pure
open Go.RowKit Go.Proofs.Ytleeifpdgnjbdaa.PWaterfallRecovers Go.Proofs.YtleeifpdgnjbdaaW.PrintWords Go.Proofs.YtleeifpdgnjbdaaW.PrintLast

theorem WaterfallRecovers : arrearslaw9_WaterfallRecovers.Pure := by
  intro a0 a1 h0 h1
  unfold arrearslaw9_WaterfallRecovers.f waterfall_Recover.f arrearsref9_Recover.f arrearslaw9_equal.f
  by_cases n : a0 < 0
  · simp [n]
  · by_cases m : a1 < 1
    · simp [n, m]
    · by_cases g : a1 > a0
      · have e : mn a0 a1 = a0 := by unfold mn; omega
        simp [n, m, g, e]
      · have e : mn a0 a1 = a1 := by unfold mn; omega
        have z : wrap64 0 = 0 := by unfold wrap64; omega
        simp [n, m, g, e, z]

end Go.Proofs.Ytleeifpdgnjbdaa.Pure
