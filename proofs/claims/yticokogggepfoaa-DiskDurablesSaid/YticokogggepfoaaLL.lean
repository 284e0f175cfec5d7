/- Two disks that differ in their count of writes alone answer alike. What is done to a whole disk leaves it whole. What is done to a whole disk leaves it whole (all operations); a disk that is down has nothing pending; behind a fall and a restart a disk is as one that is loaded with its durable bytes. No condition but what is said. -/
import Derived.Test.YticokogggepfoaaLI
namespace Go.Proofs.Yticokogggepfoaa.D
open Go.RowKit Go.Proofs.YticokogggepfoaaW.PrintWords Go.Proofs.YticokogggepfoaaW.PrintLast Go.Proofs.YticokogggepfoaaW.PrintMore Go.Proofs.Yticokogggepfoaa.G
set_option linter.unusedVariables false
set_option linter.unusedSimpArgs false
/-- The disk with its count of writes told from base on. -/
def PM.sh (p : PM) (b : Int) : PM := { p with wr := wrap64 (p.wr - b) }
theorem wrap_sh (x b : Int) : wrap64 (wrap64 (x - b) + 1) = wrap64 (wrap64 (x + 1) - b) := by
  unfold wrap64; omega
theorem write_sh (p : PM) (b : Int) : (p.sh b).write = (p.write.1.sh b, p.write.2) := by
  cases h : p.ar with
  | nil => simp only [PM.write, PM.sh, h, wrap_sh]
  | cons a r => simp only [PM.write, PM.sh, h, wrap_sh]
theorem read_sh (p : PM) (b n : Int) : (p.sh b).read n = p.read n := rfl
theorem dur_sh (p : PM) (b n : Int) : (p.sh b).dur n = p.dur n := rfl
theorem restart_sh (p : PM) (b : Int) : (p.sh b).restart = (p.restart.1.sh b, p.restart.2) := by
  by_cases h : p.dn = true
  · simp [PM.restart, PM.sh, h]
  · simp [PM.restart, PM.sh, h]
theorem disarm_sh (p : PM) (b : Int) : (p.sh b).disarm = p.disarm.sh b := rfl
theorem arm_sh (p : PM) (b x k : Int) : (p.sh b).arm x k = ((p.arm x k).1.sh b, (p.arm x k).2) := by
  unfold PM.arm
  by_cases h : badA x k
  · rw [if_pos h, if_pos h]
  · rw [if_neg h, if_neg h]
    by_cases h2 : 64 ≤ p.ar.length
    · rw [if_pos h2, if_pos (show 64 ≤ (p.sh b).ar.length from h2)]
    · rw [if_neg h2, if_neg (show ¬ 64 ≤ (p.sh b).ar.length from h2)]; rfl
theorem fall_sh (p : PM) (b : Int) : (p.sh b).fall = p.fall.sh b := by
  cases h : p.ar with
  | nil => simp only [PM.fall, PM.sh, h]
  | cons a r => simp only [PM.fall, PM.sh, h, PM.fk, PM.f0, PM.f1]
theorem fin_sh (q : PM) (z : PM → PM) (b : Int) (hz : ∀ r : PM, z (r.sh b) = (z r).sh b) : (q.sh b).fin z = ((q.fin z).1.sh b, (q.fin z).2) := by
  unfold PM.fin
  rw [write_sh]
  by_cases h : q.write.2 = true
  · rw [if_pos h, if_pos h]; exact Prod.ext (hz _) rfl
  · rw [if_neg h, if_neg h]; exact Prod.ext (fall_sh _ _) rfl
theorem setB_sh (p : PM) (n : Int) (xs : List Int) (b : Int) : (p.sh b).setB n xs = (p.setB n xs).sh b := by unfold PM.setB; split <;> rfl
theorem setS_sh (p : PM) (n : Int) (s : Nat) (b : Int) : (p.sh b).setS n s = (p.setS n s).sh b := by unfold PM.setS; split <;> rfl
theorem all_sh (p : PM) (n b : Int) : (p.sh b).all n = p.all n := rfl
theorem append_sh (p : PM) (b n : Int) (data : List Int) : (p.sh b).append n data = ((p.append n data).1.sh b, (p.append n data).2) := by
  unfold PM.append
  rw [all_sh, show (p.sh b).dn = p.dn from rfl, setB_sh]
  split
  · rfl
  · split
    · rfl
    · split
      · rfl
      · exact fin_sh _ _ _ (fun _ => rfl)
theorem syncf_sh (p : PM) (b n : Int) : (p.sh b).syncf n = ((p.syncf n).1.sh b, (p.syncf n).2) := by
  unfold PM.syncf
  rw [show (p.sh b).dn = p.dn from rfl]
  split
  · rfl
  · split
    · rfl
    · exact fin_sh _ _ _ (fun r => by rw [all_sh, setS_sh])
theorem trunc_sh (p : PM) (b n size : Int) : (p.sh b).trunc n size = ((p.trunc n size).1.sh b, (p.trunc n size).2) := by
  unfold PM.trunc
  rw [all_sh, show (p.sh b).dn = p.dn from rfl]
  split
  · rfl
  · split
    · rfl
    · split
      · rfl
      · exact fin_sh _ _ _ (fun r => by rw [all_sh, setB_sh, setS_sh])
theorem done_sh (m : OM) (p : PM) (b : Int) : m.done (p.sh b) = ((m.done p).1.sh b, (m.done p).2) := by
  unfold OM.done
  rw [append_sh, syncf_sh, trunc_sh, arm_sh, restart_sh, disarm_sh]
  repeat (first | rfl | split)
end Go.Proofs.Yticokogggepfoaa.D
namespace Go.Proofs.Yticokogggepfoaa.D
open Go.RowKit Go.Proofs.YticokogggepfoaaW.PrintWords Go.Proofs.YticokogggepfoaaW.PrintLast Go.Proofs.YticokogggepfoaaW.PrintMore Go.Proofs.Yticokogggepfoaa.G
set_option linter.unusedVariables false
set_option linter.unusedSimpArgs false
theorem restart_ok {p : PM} (h : p.ok) : p.restart.1.ok := by
  unfold PM.restart
  split
  · exact ok_of ⟨h.h0, h.h1, h.l0, h.l1, h.la, h.ha⟩
  · exact h
theorem disarm_ok {p : PM} (h : p.ok) : p.disarm.ok := ok_of ⟨h.h0, h.h1, h.l0, h.l1, by simp [PM.disarm], fun a ha => by simp [PM.disarm] at ha⟩
theorem arm_ok {p : PM} (h : p.ok) (a k : Int) : (p.arm a k).1.ok := by
  unfold PM.arm
  by_cases hb : badA a k
  · rw [if_pos hb]; exact h
  · rw [if_neg hb]
    by_cases h2 : 64 ≤ p.ar.length
    · rw [if_pos h2]; exact h
    · rw [if_neg h2]
      unfold badA at hb
      refine ok_of ⟨h.h0, h.h1, h.l0, h.l1, by simp; omega, fun x hx => ?_⟩
      rcases List.mem_append.1 hx with hx | hx
      · exact h.ha x hx
      · obtain rfl := List.mem_singleton.1 hx; dsimp only; omega
theorem f0_ok {p : PM} {k : Int} (h : p.ok) (hk : 0 ≤ k) : (p.f0 k).ok ∧ (p.f0 k).ar = p.ar := by
  have a := h.h0; have b := h.h1; have c := h.l0; have d := h.l1
  exact ⟨ok_of ⟨by simp only [PM.f0, List.length_take]; omega, by simp only [PM.f0]; omega, by simp only [PM.f0, List.length_take]; omega, by simp only [PM.f0]; omega, h.la, h.ha⟩, rfl⟩
theorem f1_ok {p : PM} {k : Int} (h : p.ok) (hk : 0 ≤ k) : (p.f1 k).ok := by
  have a := h.h0; have b := h.h1; have c := h.l0; have d := h.l1
  exact ok_of ⟨by simp only [PM.f1]; omega, by simp only [PM.f1, List.length_take]; omega, by simp only [PM.f1]; omega, by simp only [PM.f1, List.length_take]; omega, h.la, h.ha⟩
theorem fall_ok {p : PM} (h : ({ p with ar := p.ar.tail } : PM).ok) (hk : ∀ a ∈ p.ar, 0 ≤ a.2) : p.fall.ok := by
  cases har : p.ar with
  | nil => rw [har] at h; unfold PM.fall; rw [har]; exact ok_of ⟨h.h0, h.h1, h.l0, h.l1, by first | exact h.la | simp [har], fun a ha => by first | exact h.ha a ha | simp [har] at ha⟩
  | cons a r =>
    rw [har] at h
    have e : p.fall = (({ p with ar := r, dn := true } : PM).f0 a.2).f1 a.2 := by unfold PM.fall; rw [har]; rfl
    rw [e]
    have h' : ({ p with ar := r, dn := true } : PM).ok := ok_of ⟨h.h0, h.h1, h.l0, h.l1, h.la, h.ha⟩
    have ha := hk a (har ▸ List.mem_cons_self)
    exact f1_ok (f0_ok h' ha).1 ha
theorem fin_ok {q : PM} (z : PM → PM) (h : q.ok) (hz : ∀ r : PM, r.ok → r.b0 = q.b0 → r.b1 = q.b1 → (z r).ok) : (q.fin z).1.ok := by
  unfold PM.fin
  cases har : q.ar with
  | nil =>
    have e : q.write = ({ q with wr := wrap64 (q.wr + 1) }, true) := by unfold PM.write; rw [har]
    rw [e, if_pos rfl]
    exact hz _ (ok_of ⟨h.h0, h.h1, h.l0, h.l1, h.la, h.ha⟩) rfl rfl
  | cons a r =>
    have e : q.write = ({ q with wr := wrap64 (q.wr + 1), ar := (a.1 - 1, a.2) :: r }, decide (1 < a.1)) := by unfold PM.write; rw [har]
    have hl := h.la
    have ha := h.ha
    rw [har] at hl ha
    have h0 := ha a List.mem_cons_self
    have hr : ∀ x ∈ r, 1 ≤ x.1 ∧ x.1 ≤ 1000000 ∧ 0 ≤ x.2 ∧ x.2 ≤ 16777216 := fun x hx => ha x (List.mem_cons_of_mem _ hx)
    rw [List.length_cons] at hl
    rw [e]
    by_cases h1 : 1 < a.1
    · rw [if_pos (decide_eq_true h1)]
      refine hz _ (ok_of ⟨h.h0, h.h1, h.l0, h.l1, by simp only [List.length_cons]; omega, fun x hx => ?_⟩) rfl rfl
      rcases List.mem_cons.1 hx with rfl | hx
      · dsimp only; omega
      · exact hr x hx
    · rw [if_neg (by simpa using h1)]
      refine fall_ok (p := { q with wr := wrap64 (q.wr + 1), ar := (a.1 - 1, a.2) :: r }) (ok_of ⟨h.h0, h.h1, h.l0, h.l1, by simp only [List.tail_cons]; omega, fun x hx => hr x hx⟩) (fun x hx => ?_)
      rcases List.mem_cons.1 hx with rfl | hx
      · exact h0.2.2.1
      · exact (hr x hx).2.2.1
end Go.Proofs.Yticokogggepfoaa.D
namespace Go.Proofs.Yticokogggepfoaa.D
open Go.RowKit Go.Proofs.YticokogggepfoaaW.PrintWords Go.Proofs.YticokogggepfoaaW.PrintLast Go.Proofs.YticokogggepfoaaW.PrintMore Go.Proofs.Yticokogggepfoaa.G
set_option linter.unusedVariables false
set_option linter.unusedSimpArgs false
/-- Whole, and with nothing pending where it is down. -/
structure PM.fit (p : PM) : Prop where
  ok : p.ok
  down : p.dn = true → p.s0 = p.b0.length ∧ p.s1 = p.b1.length
theorem ar_ok {p q : PM} (h : p.ok) (h0 : q.b0 = p.b0) (h1 : q.b1 = p.b1) (h2 : q.s0 = p.s0) (h3 : q.s1 = p.s1) (h4 : q.ar = p.ar) : q.ok := by
  have a := h.h0; have b := h.h1; have c := h.l0; have d := h.l1; have e := h.la; have f := h.ha
  exact ok_of ⟨by rw [h2, h0]; exact a, by rw [h3, h1]; exact b, by rw [h0]; exact c, by rw [h1]; exact d, by rw [h4]; exact e, by rw [h4]; exact f⟩
theorem setBS_ok {p : PM} (h : p.ok) (n : Int) (xs : List Int) (hx : xs.length ≤ 16777216) : ((p.setB n xs).setS n xs.length).ok := by
  have a := h.h0; have b := h.h1; have c := h.l0; have d := h.l1
  unfold PM.setB PM.setS
  by_cases hn : n = 0
  · rw [if_pos hn, if_pos hn]; exact ok_of ⟨Nat.le_refl _, b, hx, d, h.la, h.ha⟩
  · rw [if_neg hn, if_neg hn]; exact ok_of ⟨a, Nat.le_refl _, c, hx, h.la, h.ha⟩
theorem all_len {p : PM} (h : p.ok) (n : Int) : (p.all n).length ≤ 16777216 := by
  unfold PM.all; split
  · exact h.l0
  · exact h.l1
theorem sync_len {p : PM} (h : p.ok) (n : Int) : p.sync n ≤ (p.all n).length := by
  unfold PM.all PM.sync; split
  · exact h.h0
  · exact h.h1
theorem setA_ok {p : PM} (h : p.ok) (n : Int) (xs : List Int) (hx : xs.length ≤ 16777216) (hs : (p.all n).length ≤ xs.length) : (p.setB n xs).ok := by
  have a := h.h0; have b := h.h1; have c := h.l0; have d := h.l1
  unfold PM.setB
  unfold PM.all at hs
  by_cases hn : n = 0
  · rw [if_pos hn] at hs ⊢; exact ok_of ⟨Nat.le_trans a hs, b, hx, d, h.la, h.ha⟩
  · rw [if_neg hn] at hs ⊢; exact ok_of ⟨a, Nat.le_trans b hs, c, hx, h.la, h.ha⟩
theorem setBS_self (p : PM) (n : Int) : (p.setB n (p.all n)) = p := by
  unfold PM.setB PM.all
  by_cases hn : n = 0
  · rw [if_pos hn, if_pos hn]
  · rw [if_neg hn, if_neg hn]
theorem syncf_ok {p : PM} (h : p.ok) (n : Int) : (p.syncf n).1.ok := by
  unfold PM.syncf
  split
  · exact h
  split
  · exact h
  refine fin_ok _ h (fun r hr _ _ => ?_)
  have hk := setBS_ok hr n (r.all n) (all_len hr n)
  rwa [setBS_self] at hk
theorem append_ok {p : PM} (h : p.ok) (n : Int) (data : List Int) : (p.append n data).1.ok := by
  unfold PM.append
  split
  · exact h
  split
  · exact h
  split
  · exact h
  rename_i hl
  exact fin_ok _ (setA_ok h n _ (by rw [List.length_append]; omega) (by rw [List.length_append]; omega)) (fun r hr _ _ => hr)
theorem trunc_ok {p : PM} (h : p.ok) (n size : Int) : (p.trunc n size).1.ok := by
  unfold PM.trunc
  split
  · exact h
  split
  · exact h
  split
  · exact h
  rename_i hs
  refine fin_ok _ h (fun r hr e0 e1 => ?_)
  have ea : r.all n = p.all n := by unfold PM.all; rw [e0, e1]
  have hn : ((r.all n).take size.toNat).length = size.toNat := by rw [List.length_take, ea]; omega
  have hk := setBS_ok hr n ((r.all n).take size.toNat) (by have := all_len hr n; rw [List.length_take]; omega)
  rwa [hn] at hk
theorem done_ok {p : PM} (h : p.ok) (m : OM) : (m.done p).1.ok := by
  unfold OM.done
  split
  · exact append_ok h _ _
  split
  · exact syncf_ok h _
  split
  · exact trunc_ok h _ _
  split
  · exact arm_ok h _ _
  split
  · exact disarm_ok h
  split
  · exact restart_ok h
  · exact h
/-! ### A disk that is down has nothing pending -/
theorem fall_down (p : PM) (a : Int × Int) (r : List (Int × Int)) (har : p.ar = a :: r) : p.fall.dn = true ∧ p.fall.s0 = p.fall.b0.length ∧ p.fall.s1 = p.fall.b1.length := by
  have e : p.fall = (({ p with ar := r, dn := true } : PM).f0 a.2).f1 a.2 := by unfold PM.fall; rw [har]; rfl
  rw [e]
  refine ⟨rfl, ?_, ?_⟩
  · simp only [PM.f1, PM.f0, List.length_take]; omega
  · simp only [PM.f1, PM.f0, List.length_take]; omega
/-- A counted write leaves the disk up, or fallen. -/
theorem fin_fit {q : PM} (z : PM → PM) (hd : q.dn = false) (hz : ∀ r : PM, (z r).dn = r.dn) : ((q.fin z).2 = 0 ∧ (q.fin z).1 = z q.write.1 ∧ (q.fin z).1.dn = false) ∨ ((q.fin z).2 = 51 ∧ (q.fin z).1 = q.write.1.fall ∧ (q.fin z).1.dn = true ∧ (q.fin z).1.s0 = (q.fin z).1.b0.length ∧ (q.fin z).1.s1 = (q.fin z).1.b1.length) := by
  unfold PM.fin
  by_cases h : q.write.2 = true
  · rw [if_pos h]
    exact .inl ⟨rfl, rfl, by rw [hz, (write_len q).2.2.2.2, hd]⟩
  · rw [if_neg h]
    refine .inr ⟨rfl, rfl, ?_⟩
    have hw : q.write.2 = false := by simpa using h
    cases har : q.ar with
    | nil => unfold PM.write at hw; rw [har] at hw; simp at hw
    | cons a r =>
      have e : q.write.1.ar = (a.1 - 1, a.2) :: r := by unfold PM.write; rw [har]
      exact fall_down _ _ _ e
theorem fin_down {q : PM} (z : PM → PM) (hd : q.dn = false) (hz : ∀ r : PM, (z r).dn = r.dn) (h : (q.fin z).1.dn = true) : (q.fin z).1.s0 = (q.fin z).1.b0.length ∧ (q.fin z).1.s1 = (q.fin z).1.b1.length := by
  rcases fin_fit z hd hz with h1 | h1
  · rw [h1.2.2] at h; cases h
  · exact h1.2.2.2
theorem setB_dn (p : PM) (n : Int) (xs : List Int) : (p.setB n xs).dn = p.dn := by unfold PM.setB; split <;> rfl
theorem setS_dn (p : PM) (n : Int) (s : Nat) : (p.setS n s).dn = p.dn := by unfold PM.setS; split <;> rfl
theorem append_fit {p : PM} (h : p.fit) (n : Int) (data : List Int) : (p.append n data).1.fit := by
  refine ⟨append_ok h.ok n data, ?_⟩
  unfold PM.append
  split
  · exact h.down
  by_cases hd : p.dn = true
  · rw [if_pos hd]; exact h.down
  rw [if_neg hd]
  split
  · exact h.down
  exact fin_down _ (by rw [setB_dn]; simpa using hd) (fun _ => rfl)
theorem syncf_fit {p : PM} (h : p.fit) (n : Int) : (p.syncf n).1.fit := by
  refine ⟨syncf_ok h.ok n, ?_⟩
  unfold PM.syncf
  split
  · exact h.down
  by_cases hd : p.dn = true
  · rw [if_pos hd]; exact h.down
  rw [if_neg hd]
  exact fin_down _ (by simpa using hd) (fun r => by rw [setS_dn])
theorem trunc_fit {p : PM} (h : p.fit) (n size : Int) : (p.trunc n size).1.fit := by
  refine ⟨trunc_ok h.ok n size, ?_⟩
  unfold PM.trunc
  split
  · exact h.down
  by_cases hd : p.dn = true
  · rw [if_pos hd]; exact h.down
  rw [if_neg hd]
  split
  · exact h.down
  exact fin_down _ (by simpa using hd) (fun r => by rw [setS_dn, setB_dn])
theorem arm_fit {p : PM} (h : p.fit) (a k : Int) : (p.arm a k).1.fit := by
  refine ⟨arm_ok h.ok a k, ?_⟩
  unfold PM.arm
  split
  · exact h.down
  split
  · exact h.down
  · exact h.down
theorem restart_fit {p : PM} (h : p.fit) : p.restart.1.fit := by
  refine ⟨restart_ok h.ok, ?_⟩
  unfold PM.restart
  split
  · intro h_; cases h_
  · exact h.down
theorem disarm_fit {p : PM} (h : p.fit) : p.disarm.fit := ⟨disarm_ok h.ok, h.down⟩
theorem done_fit {p : PM} (h : p.fit) (m : OM) : (m.done p).1.fit := by
  unfold OM.done
  split
  · exact append_fit h _ _
  split
  · exact syncf_fit h _
  split
  · exact trunc_fit h _ _
  split
  · exact arm_fit h _ _
  split
  · exact disarm_fit h
  split
  · exact restart_fit h
  · exact h
theorem load_fit (l0 l1 : List Int) : (PM.load l0 l1 2).fit :=
  ⟨ok_of ⟨by simp only [PM.load, List.length_take]; omega, by simp only [PM.load, List.length_take]; omega, by simp only [PM.load, List.length_take]; omega, by simp only [PM.load, List.length_take]; omega, by simp [PM.load], fun a ha => by simp [PM.load] at ha⟩, fun h => by simp [PM.load] at h⟩
/-- A script's work. -/
def plays (p : PM) (ms : List OM) : PM := ms.foldl (fun p m => (m.done p).1) p
theorem plays_fit {p : PM} (h : p.fit) (ms : List OM) : (plays p ms).fit := by
  induction ms generalizing p with
  | nil => exact h
  | cons m r ih => exact ih (done_fit h m)
theorem plays_take {p : PM} {ms : List OM} {j : Nat} (h : j < ms.length) : plays p (ms.take (j + 1)) = (ms[j].done (plays p (ms.take j))).1 := by
  unfold plays
  rw [List.take_succ_eq_append_getElem h, List.foldl_append]; rfl
/-! ### Down and up again -/
/-- What is done ahead of the restart. -/
def PM.felled (p : PM) : PM := if p.disarm.dn = true then p.disarm else ((p.disarm.arm 1 0).1.syncf 0).1
theorem arm10 (p : PM) : p.disarm.arm 1 0 = ({ p with ar := [(1, 0)] }, 0) := by
  unfold PM.arm
  rw [if_neg (by unfold badA; omega), if_neg (by simp [PM.disarm])]; rfl
theorem fell_sync {p : PM} (hd : p.dn = false) : (({ p with ar := [(1, 0)] } : PM).syncf 0).2 = 51 ∧ (({ p with ar := [(1, 0)] } : PM).syncf 0).1.dn = true ∧ (({ p with ar := [(1, 0)] } : PM).syncf 0).1.ar = [] := by
  unfold PM.syncf
  rw [if_neg (by unfold badF; omega), if_neg (by simp [hd])]
  unfold PM.fin
  have e : ({ p with ar := [(1, 0)] } : PM).write = ({ p with wr := wrap64 (p.wr + 1), ar := [(0, 0)] }, false) := by unfold PM.write; rfl
  rw [e, if_neg (by simp)]
  refine ⟨rfl, ?_, ?_⟩
  · exact (fall_down _ _ _ rfl).1
  · rfl
theorem felled_fit {p : PM} (h : p.fit) : p.felled.fit ∧ p.felled.dn = true ∧ p.felled.ar = [] := by
  unfold PM.felled
  by_cases hd : p.disarm.dn = true
  · rw [if_pos hd]; exact ⟨disarm_fit h, hd, rfl⟩
  · rw [if_neg hd]
    refine ⟨syncf_fit (arm_fit (disarm_fit h) 1 0) 0, ?_⟩
    rw [arm10]
    exact (fell_sync (p := p) (by simpa [PM.disarm] using hd)).2
/-- The disk behind the restart. -/
def PM.anew (p : PM) : PM := { p.felled with dn := false }
theorem anew_restart {p : PM} (h : p.fit) : p.felled.restart = (p.anew, 0) := by
  unfold PM.restart PM.anew; rw [if_pos (felled_fit h).2.1]
theorem anew_fit {p : PM} (h : p.fit) : p.anew.fit := by
  have h1 := restart_fit (felled_fit h).1
  rwa [anew_restart h] at h1
theorem anew_load {p : PM} (h : p.fit) : PM.load (p.anew.dur 0).1 (p.anew.dur 1).1 2 = p.anew.sh p.anew.wr := by
  obtain ⟨⟨h0, h1, h2, h3, h4, h5⟩, hs⟩ := (felled_fit h).1
  obtain ⟨_, hdn, har⟩ := felled_fit h
  obtain ⟨e0, e1⟩ := hs hdn
  have d0 : (p.anew.dur 0).1 = p.felled.b0 := by
    unfold PM.dur; rw [if_neg (by unfold badF; omega)]
    show p.felled.b0.take p.felled.s0 = _
    rw [e0, List.take_length]
  have d1 : (p.anew.dur 1).1 = p.felled.b1 := by
    unfold PM.dur; rw [if_neg (by unfold badF; omega)]
    show p.felled.b1.take p.felled.s1 = _
    rw [e1, List.take_length]
  rw [d0, d1]
  have t0 : p.felled.b0.take 16777216 = p.felled.b0 := List.take_of_length_le h2
  have t1 : p.felled.b1.take 16777216 = p.felled.b1 := List.take_of_length_le h3
  unfold PM.load PM.sh PM.anew
  rw [t0, t1, Nat.min_eq_left h2, Nat.min_eq_left h3, har, e0, e1, Int.sub_self, show wrap64 0 = 0 from (by unfold wrap64; decide)]; rfl
/-! ### Both answer alike -/
/-- One step on both: the answer of same, and the two disks behind it. -/
def OM.next (m : OM) (p : PM) : PM := if m.kd = 5 ∨ m.kd = 6 ∨ m.kd = 10 ∨ m.kd = 11 then p else (m.done p).1
theorem next_sh (m : OM) (p : PM) (b : Int) : m.next (p.sh b) = (m.next p).sh b := by
  unfold OM.next; split
  · rfl
  · rw [done_sh]
theorem next_fit {p : PM} (h : p.fit) (m : OM) : (m.next p).fit := by
  unfold OM.next; split
  · exact h
  · exact done_fit h m
theorem sh_fit {p : PM} (h : p.fit) (b : Int) : (p.sh b).fit := ⟨ar_ok h.ok rfl rfl rfl rfl rfl, h.down⟩
end Go.Proofs.Yticokogggepfoaa.D
