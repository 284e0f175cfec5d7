/- What is done to a whole disk leaves it whole. No condition. -/
import Derived.Test.YticokogggepfoaaLJ
namespace Go.Proofs.Yticokogggepfoaa.D
open Go.RowKit Go.Proofs.YticokogggepfoaaW.PrintWords Go.Proofs.YticokogggepfoaaW.PrintLast Go.Proofs.YticokogggepfoaaW.PrintMore Go.Proofs.Yticokogggepfoaa.G
set_option linter.unusedVariables false
set_option linter.unusedSimpArgs false
theorem restart_ok {p : PM} (h : p.ok) : p.restart.1.ok := by
  unfold PM.restart
  split
  · exact ok_of ⟨h.h0, h.h1, h.l0, h.l1, h.la, h.ha⟩
  · exact h
theorem disarm_ok {p : PM} (h : p.ok) : p.disarm.ok := ok_of ⟨h.h0, h.h1, h.l0, h.l1, by simp [PM.disarm], fun a ha => by simp [PM.disarm] at ha⟩
theorem arm_ok {p : PM} (h : p.ok) (a k : Int) : (p.arm a k).1.ok := by
  unfold PM.arm
  by_cases hb : badA a k
  · rw [if_pos hb]; exact h
  · rw [if_neg hb]
    by_cases h2 : 64 ≤ p.ar.length
    · rw [if_pos h2]; exact h
    · rw [if_neg h2]
      unfold badA at hb
      refine ok_of ⟨h.h0, h.h1, h.l0, h.l1, by simp; omega, fun x hx => ?_⟩
      rcases List.mem_append.1 hx with hx | hx
      · exact h.ha x hx
      · obtain rfl := List.mem_singleton.1 hx; dsimp only; omega
theorem f0_ok {p : PM} {k : Int} (h : p.ok) (hk : 0 ≤ k) : (p.f0 k).ok ∧ (p.f0 k).ar = p.ar := by
  have a := h.h0; have b := h.h1; have c := h.l0; have d := h.l1
  exact ⟨ok_of ⟨by simp only [PM.f0, List.length_take]; omega, by simp only [PM.f0]; omega, by simp only [PM.f0, List.length_take]; omega, by simp only [PM.f0]; omega, h.la, h.ha⟩, rfl⟩
theorem f1_ok {p : PM} {k : Int} (h : p.ok) (hk : 0 ≤ k) : (p.f1 k).ok := by
  have a := h.h0; have b := h.h1; have c := h.l0; have d := h.l1
  exact ok_of ⟨by simp only [PM.f1]; omega, by simp only [PM.f1, List.length_take]; omega, by simp only [PM.f1]; omega, by simp only [PM.f1, List.length_take]; omega, h.la, h.ha⟩
theorem fall_ok {p : PM} (h : ({ p with ar := p.ar.tail } : PM).ok) (hk : ∀ a ∈ p.ar, 0 ≤ a.2) : p.fall.ok := by
  cases har : p.ar with
  | nil => rw [har] at h; unfold PM.fall; rw [har]; exact ok_of ⟨h.h0, h.h1, h.l0, h.l1, by first | exact h.la | simp [har], fun a ha => by first | exact h.ha a ha | simp [har] at ha⟩
  | cons a r =>
    rw [har] at h
    have e : p.fall = (({ p with ar := r, dn := true } : PM).f0 a.2).f1 a.2 := by unfold PM.fall; rw [har]; rfl
    rw [e]
    have h' : ({ p with ar := r, dn := true } : PM).ok := ok_of ⟨h.h0, h.h1, h.l0, h.l1, h.la, h.ha⟩
    have ha := hk a (har ▸ List.mem_cons_self)
    exact f1_ok (f0_ok h' ha).1 ha
theorem fin_ok {q : PM} (z : PM → PM) (h : q.ok) (hz : ∀ r : PM, r.ok → r.b0 = q.b0 → r.b1 = q.b1 → (z r).ok) : (q.fin z).1.ok := by
  unfold PM.fin
  cases har : q.ar with
  | nil =>
    have e : q.write = ({ q with wr := wrap64 (q.wr + 1) }, true) := by unfold PM.write; rw [har]
    rw [e, if_pos rfl]
    exact hz _ (ok_of ⟨h.h0, h.h1, h.l0, h.l1, h.la, h.ha⟩) rfl rfl
  | cons a r =>
    have e : q.write = ({ q with wr := wrap64 (q.wr + 1), ar := (a.1 - 1, a.2) :: r }, decide (1 < a.1)) := by unfold PM.write; rw [har]
    have hl := h.la
    have ha := h.ha
    rw [har] at hl ha
    have h0 := ha a List.mem_cons_self
    have hr : ∀ x ∈ r, 1 ≤ x.1 ∧ x.1 ≤ 1000000 ∧ 0 ≤ x.2 ∧ x.2 ≤ 16777216 := fun x hx => ha x (List.mem_cons_of_mem _ hx)
    rw [List.length_cons] at hl
    rw [e]
    by_cases h1 : 1 < a.1
    · rw [if_pos (decide_eq_true h1)]
      refine hz _ (ok_of ⟨h.h0, h.h1, h.l0, h.l1, by simp only [List.length_cons]; omega, fun x hx => ?_⟩) rfl rfl
      rcases List.mem_cons.1 hx with rfl | hx
      · dsimp only; omega
      · exact hr x hx
    · rw [if_neg (by simpa using h1)]
      refine fall_ok (p := { q with wr := wrap64 (q.wr + 1), ar := (a.1 - 1, a.2) :: r }) (ok_of ⟨h.h0, h.h1, h.l0, h.l1, by simp only [List.tail_cons]; omega, fun x hx => hr x hx⟩) (fun x hx => ?_)
      rcases List.mem_cons.1 hx with rfl | hx
      · exact h0.2.2.1
      · exact (hr x hx).2.2.1
end Go.Proofs.Yticokogggepfoaa.D
