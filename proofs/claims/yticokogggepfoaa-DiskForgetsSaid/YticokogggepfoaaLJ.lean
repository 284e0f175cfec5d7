/- Two disks that differ in their count of writes alone answer alike. No condition. -/
import Derived.Test.YticokogggepfoaaLI
namespace Go.Proofs.Yticokogggepfoaa.D
open Go.RowKit Go.Proofs.YticokogggepfoaaW.PrintWords Go.Proofs.YticokogggepfoaaW.PrintLast Go.Proofs.YticokogggepfoaaW.PrintMore Go.Proofs.Yticokogggepfoaa.G
set_option linter.unusedVariables false
set_option linter.unusedSimpArgs false
/-- The disk with its count of writes told from base on. -/
def PM.sh (p : PM) (b : Int) : PM := { p with wr := wrap64 (p.wr - b) }
theorem wrap_sh (x b : Int) : wrap64 (wrap64 (x - b) + 1) = wrap64 (wrap64 (x + 1) - b) := by
  unfold wrap64; omega
theorem write_sh (p : PM) (b : Int) : (p.sh b).write = (p.write.1.sh b, p.write.2) := by
  cases h : p.ar with
  | nil => simp only [PM.write, PM.sh, h, wrap_sh]
  | cons a r => simp only [PM.write, PM.sh, h, wrap_sh]
theorem read_sh (p : PM) (b n : Int) : (p.sh b).read n = p.read n := rfl
theorem dur_sh (p : PM) (b n : Int) : (p.sh b).dur n = p.dur n := rfl
theorem restart_sh (p : PM) (b : Int) : (p.sh b).restart = (p.restart.1.sh b, p.restart.2) := by
  by_cases h : p.dn = true
  · simp [PM.restart, PM.sh, h]
  · simp [PM.restart, PM.sh, h]
theorem disarm_sh (p : PM) (b : Int) : (p.sh b).disarm = p.disarm.sh b := rfl
theorem arm_sh (p : PM) (b x k : Int) : (p.sh b).arm x k = ((p.arm x k).1.sh b, (p.arm x k).2) := by
  unfold PM.arm
  by_cases h : badA x k
  · rw [if_pos h, if_pos h]
  · rw [if_neg h, if_neg h]
    by_cases h2 : 64 ≤ p.ar.length
    · rw [if_pos h2, if_pos (show 64 ≤ (p.sh b).ar.length from h2)]
    · rw [if_neg h2, if_neg (show ¬ 64 ≤ (p.sh b).ar.length from h2)]; rfl
theorem fall_sh (p : PM) (b : Int) : (p.sh b).fall = p.fall.sh b := by
  cases h : p.ar with
  | nil => simp only [PM.fall, PM.sh, h]
  | cons a r => simp only [PM.fall, PM.sh, h, PM.fk, PM.f0, PM.f1]
theorem fin_sh (q : PM) (z : PM → PM) (b : Int) (hz : ∀ r : PM, z (r.sh b) = (z r).sh b) : (q.sh b).fin z = ((q.fin z).1.sh b, (q.fin z).2) := by
  unfold PM.fin
  rw [write_sh]
  by_cases h : q.write.2 = true
  · rw [if_pos h, if_pos h]; exact Prod.ext (hz _) rfl
  · rw [if_neg h, if_neg h]; exact Prod.ext (fall_sh _ _) rfl
theorem setB_sh (p : PM) (n : Int) (xs : List Int) (b : Int) : (p.sh b).setB n xs = (p.setB n xs).sh b := by unfold PM.setB; split <;> rfl
theorem setS_sh (p : PM) (n : Int) (s : Nat) (b : Int) : (p.sh b).setS n s = (p.setS n s).sh b := by unfold PM.setS; split <;> rfl
theorem all_sh (p : PM) (n b : Int) : (p.sh b).all n = p.all n := rfl
theorem append_sh (p : PM) (b n : Int) (data : List Int) : (p.sh b).append n data = ((p.append n data).1.sh b, (p.append n data).2) := by
  unfold PM.append
  rw [all_sh, show (p.sh b).dn = p.dn from rfl, setB_sh]
  split
  · rfl
  · split
    · rfl
    · split
      · rfl
      · exact fin_sh _ _ _ (fun _ => rfl)
theorem syncf_sh (p : PM) (b n : Int) : (p.sh b).syncf n = ((p.syncf n).1.sh b, (p.syncf n).2) := by
  unfold PM.syncf
  rw [show (p.sh b).dn = p.dn from rfl]
  split
  · rfl
  · split
    · rfl
    · exact fin_sh _ _ _ (fun r => by rw [all_sh, setS_sh])
theorem trunc_sh (p : PM) (b n size : Int) : (p.sh b).trunc n size = ((p.trunc n size).1.sh b, (p.trunc n size).2) := by
  unfold PM.trunc
  rw [all_sh, show (p.sh b).dn = p.dn from rfl]
  split
  · rfl
  · split
    · rfl
    · split
      · rfl
      · exact fin_sh _ _ _ (fun r => by rw [all_sh, setB_sh, setS_sh])
theorem done_sh (m : OM) (p : PM) (b : Int) : m.done (p.sh b) = ((m.done p).1.sh b, (m.done p).2) := by
  unfold OM.done
  rw [append_sh, syncf_sh, trunc_sh, arm_sh, restart_sh, disarm_sh]
  repeat (first | rfl | split)
end Go.Proofs.Yticokogggepfoaa.D
