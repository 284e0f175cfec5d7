/- The program's disk and the document's, in plain: what they answer is the same, call by call. No condition but that the document's disk is whole. -/
import Derived.Test.YticokogggepfoaaRJ
import Derived.Test.YticokogggepfoaaLL
namespace Go.Proofs.Yticokogggepfoaa.D
open Go.RowKit Go.Proofs.YticokogggepfoaaW.PrintWords Go.Proofs.YticokogggepfoaaW.PrintLast Go.Proofs.YticokogggepfoaaW.PrintMore Go.Proofs.Yticokogggepfoaa.G
set_option linter.unusedVariables false
set_option linter.unusedSimpArgs false
def relA (ar : List (Int × Int)) (cnt : Int) : List (Int × Int) := match ar with
  | [] => []
  | a :: r => (a.1 - cnt, a.2) :: r
/-- The program's disk holds what the document's does. -/
structure Rel (p : PM) (m : RM) : Prop where
  b0 : p.b0 = m.d0 ++ m.p0
  s0 : p.s0 = m.d0.length
  b1 : p.b1 = m.d1 ++ m.p1
  s1 : p.s1 = m.d1.length
  ar : p.ar = relA m.ar m.cnt
  dn : p.dn = m.dn
  wr : p.wr = m.wr
section
variable {p q : PM} {m : RM}
theorem Rel.ok (h : Rel p m) (hm : m.ok) : p.ok := by
  refine ok_of ⟨by rw [h.s0, h.b0, List.length_append]; omega, by rw [h.s1, h.b1, List.length_append]; omega, by rw [h.b0, List.length_append]; exact hm.l0, by rw [h.b1, List.length_append]; exact hm.l1, ?_, ?_⟩
  · rw [h.ar]
    have := hm.la
    cases har : m.ar with
    | nil => simp [relA]
    | cons a r => rw [har] at this; simpa [relA] using this
  · rw [h.ar]
    cases har : m.ar with
    | nil => intro a ha; simp [relA] at ha
    | cons a r =>
      have h1 := hm.ha
      rw [har] at h1
      have h2 := hm.c1 a r har
      have h3 := hm.c0
      have h4 := h1 a List.mem_cons_self
      intro x hx
      simp only [relA, List.mem_cons] at hx
      rcases hx with rfl | hx
      · dsimp only; omega
      · exact h1 x (List.mem_cons_of_mem _ hx)
theorem Rel.all (h : Rel p m) (n : Int) : p.all n = m.dur n ++ m.pend n := by
  unfold PM.all RM.dur RM.pend; split
  · exact h.b0
  · exact h.b1
theorem Rel.sync (h : Rel p m) (n : Int) : p.sync n = (m.dur n).length := by
  unfold PM.sync RM.dur; split
  · exact h.s0
  · exact h.s1
theorem Rel.read (h : Rel p m) (n : Int) : p.read n = m.read n := by
  unfold PM.read RM.read; rw [h.dn, h.all]
theorem Rel.dur (h : Rel p m) (n : Int) : p.dur n = m.durable n := by
  unfold PM.dur RM.durable; rw [h.all, h.sync, List.take_left']; rfl
theorem Rel.write (h : Rel p m) (hm : m.ok) : Rel p.write.1 m.counted.1 ∧ p.write.2 = !m.counted.2 ∧ (m.counted.2 = false → m.counted.1.ok) := by
  cases har : m.ar with
  | nil =>
    have hp : p.ar = [] := by rw [h.ar, har]; rfl
    have e : p.write = ({ p with wr := wrap64 (p.wr + 1) }, true) := by unfold PM.write; rw [hp]
    have e2 : m.counted = ({ m with wr := wrap64 (m.wr + 1) }, false) := by unfold RM.counted; rw [har]
    rw [e, e2]
    exact ⟨⟨h.b0, h.s0, h.b1, h.s1, h.ar, h.dn, by dsimp only; rw [h.wr]⟩, rfl, fun _ => ⟨hm.l0, hm.l1, hm.la, hm.ha, hm.c0, hm.c1, hm.c2⟩⟩
  | cons a r =>
    have hp : p.ar = (a.1 - m.cnt, a.2) :: r := by rw [h.ar, har]; rfl
    have e : p.write = ({ p with wr := wrap64 (p.wr + 1), ar := (a.1 - m.cnt - 1, a.2) :: r }, decide (1 < a.1 - m.cnt)) := by unfold PM.write; rw [hp]
    have e2 : m.counted = ({ m with wr := wrap64 (m.wr + 1), cnt := m.cnt + 1 }, decide (m.cnt + 1 = a.1)) := by unfold RM.counted; rw [har]
    have hc := hm.c1 a r har
    have h0 := hm.c0
    rw [e, e2]
    refine ⟨⟨h.b0, h.s0, h.b1, h.s1, ?_, h.dn, by dsimp only; rw [h.wr]⟩, ?_, fun hf => ⟨hm.l0, hm.l1, hm.la, hm.ha, by dsimp only; omega, fun a' r' h' => ?_, fun h' => ?_⟩⟩
    · dsimp only; rw [har]; simp only [relA]; congr 2; omega
    · dsimp only
      by_cases hq : m.cnt + 1 = a.1
      · rw [decide_eq_true hq, decide_eq_false (by omega)]; rfl
      · rw [decide_eq_false hq, decide_eq_true (by omega)]; rfl
    · dsimp only at h' hf ⊢
      rw [har] at h'
      injection h' with h1 h2
      subst h1
      have := of_decide_eq_false hf
      omega
    · dsimp only at h'; rw [har] at h'; cases h'
theorem take_fall (d p : List Int) (k : Nat) : (d ++ p).take (min (d ++ p).length (d.length + k)) = d ++ p.take k ∧ min (d ++ p).length (d.length + k) = (d ++ p.take k).length := by
  constructor
  · rw [List.take_append, List.take_of_length_le (by rw [List.length_append]; omega)]
    congr 1
    rw [List.length_append]
    by_cases hk : k ≤ p.length
    · rw [Nat.min_eq_right (by omega), Nat.add_sub_cancel_left]
    · rw [Nat.min_eq_left (by omega), Nat.add_sub_cancel_left, List.take_of_length_le (by omega), List.take_of_length_le (by omega)]
  · rw [List.length_append, List.length_append, List.length_take]; omega
theorem Rel.fall (h : Rel p m) {a : Int × Int} {r : List (Int × Int)} (har : m.ar = a :: r) : Rel p.fall m.fallen := by
  have hp : p.ar = (a.1 - m.cnt, a.2) :: r := by rw [h.ar, har]; rfl
  have e : p.fall = (({ p with ar := r, dn := true } : PM).f0 a.2).f1 a.2 := by unfold PM.fall; rw [hp]; rfl
  have e2 : m.fallen = { m with d0 := m.d0 ++ m.p0.take a.2.toNat, d1 := m.d1 ++ m.p1.take a.2.toNat, p0 := [], p1 := [], ar := r, cnt := 0, dn := true } := by unfold RM.fallen; rw [har]
  rw [e, e2]
  obtain ⟨t0, u0⟩ := take_fall m.d0 m.p0 a.2.toNat
  obtain ⟨t1, u1⟩ := take_fall m.d1 m.p1 a.2.toNat
  refine ⟨?_, ?_, ?_, ?_, ?_, rfl, h.wr⟩
  · show p.b0.take (min p.b0.length (p.s0 + a.2.toNat)) = _
    rw [h.b0, h.s0, t0, List.append_nil]
  · show min p.b0.length (p.s0 + a.2.toNat) = _
    rw [h.b0, h.s0, u0]
  · show p.b1.take (min p.b1.length (p.s1 + a.2.toNat)) = _
    rw [h.b1, h.s1, t1, List.append_nil]
  · show min p.b1.length (p.s1 + a.2.toNat) = _
    rw [h.b1, h.s1, u1]
  · show r = relA r 0
    cases r with
    | nil => rfl
    | cons b r => simp [relA]
theorem fallen_ok (hm : m.ok) {a : Int × Int} {r : List (Int × Int)} {c : Int} (har : m.ar = a :: r) : ({ m with cnt := c } : RM).fallen.ok := by
  have e2 : ({ m with cnt := c } : RM).fallen = { m with d0 := m.d0 ++ m.p0.take a.2.toNat, d1 := m.d1 ++ m.p1.take a.2.toNat, p0 := [], p1 := [], ar := r, cnt := 0, dn := true } := by unfold RM.fallen; dsimp only; rw [har]
  rw [e2]
  have l0 := hm.l0
  have l1 := hm.l1
  have la := hm.la
  have ha := hm.ha
  rw [har] at la ha
  rw [List.length_cons] at la
  refine ⟨by dsimp only; rw [List.length_append, List.length_take]; simp; omega, by dsimp only; rw [List.length_append, List.length_take]; simp; omega, by dsimp only; omega, fun x hx => ha x (List.mem_cons_of_mem _ hx), Int.le_refl _, fun a' r' h' => ?_, fun _ => rfl⟩
  dsimp only at h' ⊢
  have := (ha a' (by rw [h']; simp)).1
  omega
/-- A counted write, done or fallen at. -/
theorem Rel.fin (h : Rel p m) (hm : m.ok) {z : PM → PM} {z' : RM → RM} (hz : m.counted.2 = false → Rel (z p.write.1) (z' m.counted.1) ∧ (z' m.counted.1).ok) :
    Rel (p.fin z).1 (m.fin z').1 ∧ (p.fin z).2 = (m.fin z').2 ∧ (m.fin z').1.ok := by
  obtain ⟨h1, h2, h3⟩ := h.write hm
  unfold PM.fin RM.fin
  cases hc : m.counted.2 with
  | false =>
    rw [h2, hc, if_pos (show (!false) = true from rfl), if_neg (by simp)]
    exact ⟨(hz hc).1, rfl, (hz hc).2⟩
  | true =>
    rw [h2, hc, if_neg (by simp), if_pos (show true = true from rfl)]
    cases har : m.ar with
    | nil => unfold RM.counted at hc; rw [har] at hc; simp at hc
    | cons a r =>
      have e2 : m.counted.1 = { m with wr := wrap64 (m.wr + 1), cnt := m.cnt + 1 } := by unfold RM.counted; rw [har]
      have har2 : m.counted.1.ar = a :: r := by rw [e2]; exact har
      refine ⟨h1.fall har2, rfl, ?_⟩
      rw [e2]
      exact fallen_ok (m := { m with wr := wrap64 (m.wr + 1) }) ⟨hm.l0, hm.l1, hm.la, hm.ha, hm.c0, hm.c1, hm.c2⟩ (c := m.cnt + 1) har
theorem Rel.setB (h : Rel p m) (n : Int) (a b : List Int) (ha : m.dur n = a) : Rel (p.setB n (a ++ b)) (m.with_ n a b) := by
  unfold PM.setB RM.with_
  unfold RM.dur at ha
  by_cases hn : n = 0
  · rw [if_pos hn] at ha ⊢; rw [if_pos hn]; exact ⟨rfl, by dsimp only; rw [h.s0, ha], h.b1, h.s1, h.ar, h.dn, h.wr⟩
  · rw [if_neg hn] at ha ⊢; rw [if_neg hn]; exact ⟨h.b0, h.s0, rfl, by dsimp only; rw [h.s1, ha], h.ar, h.dn, h.wr⟩
theorem Rel.setBS (h : Rel p m) (n : Int) (a : List Int) : Rel ((p.setB n a).setS n a.length) (m.with_ n a []) := by
  unfold PM.setB PM.setS RM.with_
  by_cases hn : n = 0
  · rw [if_pos hn, if_pos hn, if_pos hn]; exact ⟨by dsimp only; rw [List.append_nil], rfl, h.b1, h.s1, h.ar, h.dn, h.wr⟩
  · rw [if_neg hn, if_neg hn, if_neg hn]; exact ⟨h.b0, h.s0, by dsimp only; rw [List.append_nil], rfl, h.ar, h.dn, h.wr⟩
def Same (r : PM × Int) (r' : RM × Int) : Prop := Rel r.1 r'.1 ∧ r.2 = r'.2 ∧ r'.1.ok
theorem same_self (h : Rel p m) (hm : m.ok) (e : Int) : Same (p, e) (m, e) := ⟨h, rfl, hm⟩
theorem Rel.append (h : Rel p m) (hm : m.ok) (n : Int) (data : List Int) : Same (p.append n data) (m.append n data) := by
  unfold PM.append RM.append
  rw [h.dn]
  split
  · exact same_self h hm _
  split
  · exact same_self h hm _
  rw [h.all, List.length_append]
  split
  · exact same_self h hm _
  rename_i hl
  rw [List.append_assoc]
  have hr := h.setB n (m.dur n) (m.pend n ++ data) rfl
  have ho := hm.with_ n (a := m.dur n) (b := m.pend n ++ data) (by rw [List.length_append]; omega)
  exact hr.fin ho (fun hc => ⟨(hr.write ho).1, (hr.write ho).2.2 hc⟩)
theorem Rel.syncf (h : Rel p m) (hm : m.ok) (n : Int) : Same (p.syncf n) (m.syncf n) := by
  unfold PM.syncf RM.syncf
  rw [h.dn]
  split
  · exact same_self h hm _
  split
  · exact same_self h hm _
  refine h.fin hm (fun hc => ?_)
  obtain ⟨h1, _, h3⟩ := h.write hm
  have hk := h1.setBS n (m.counted.1.dur n ++ m.counted.1.pend n)
  rw [← h1.all, setBS_self] at hk
  refine ⟨by rw [← h1.all]; exact hk, (h3 hc).with_ n ?_⟩
  rw [List.length_append]; have := (h3 hc).len n; simpa using this
theorem Rel.trunc (h : Rel p m) (hm : m.ok) (n size : Int) : Same (p.trunc n size) (m.trunc n size) := by
  unfold PM.trunc RM.trunc
  rw [h.dn, h.all, List.length_append]
  split
  · exact same_self h hm _
  split
  · exact same_self h hm _
  split
  · exact same_self h hm _
  rename_i hs
  refine h.fin hm (fun hc => ?_)
  obtain ⟨h1, _, h3⟩ := h.write hm
  have e1 := (counted_len m n).1
  have e2 := (counted_len m n).2
  have ea : p.write.1.all n = m.dur n ++ m.pend n := by rw [h1.all, e1, e2]
  have hlen : ((m.dur n ++ m.pend n).take size.toNat).length = size.toNat := by rw [List.length_take, List.length_append]; omega
  have hk := h1.setBS n ((m.dur n ++ m.pend n).take size.toNat)
  rw [hlen] at hk
  refine ⟨by rw [ea]; exact hk, (h3 hc).with_ n ?_⟩
  rw [hlen]; have := hm.len n; simp; omega
theorem Rel.arm (h : Rel p m) (hm : m.ok) (a k : Int) : Same (p.arm a k) (m.arm a k) := by
  have hl : p.ar.length = m.ar.length := by rw [h.ar]; cases m.ar <;> rfl
  unfold PM.arm RM.arm
  rw [hl]
  by_cases hb : badA a k
  · rw [if_pos hb, if_pos hb]; exact same_self h hm _
  rw [if_neg hb, if_neg hb]
  split
  · exact same_self h hm _
  rename_i hn
  unfold badA at hb
  refine ⟨⟨h.b0, h.s0, h.b1, h.s1, ?_, h.dn, h.wr⟩, rfl, ⟨hm.l0, hm.l1, by dsimp only; simp; omega, fun x hx => ?_, hm.c0, fun b r h' => ?_, fun h' => ?_⟩⟩
  · dsimp only
    rw [h.ar]
    cases har : m.ar with
    | nil => rw [hm.c2 har]; simp [relA]
    | cons b r => rfl
  · rcases List.mem_append.1 hx with hx | hx
    · exact hm.ha x hx
    · obtain rfl := List.mem_singleton.1 hx; dsimp only; omega
  · dsimp only at h' ⊢
    cases har : m.ar with
    | nil => rw [har] at h'; simp at h'; obtain ⟨rfl, rfl⟩ := h'; rw [hm.c2 har]; dsimp only; omega
    | cons c s => rw [har, List.cons_append] at h'; injection h' with h1 h2; subst h1; exact hm.c1 _ s har
  · dsimp only at h'; simp at h'
theorem Rel.disarm (h : Rel p m) (hm : m.ok) : Rel p.disarm m.disarm ∧ m.disarm.ok :=
  ⟨⟨h.b0, h.s0, h.b1, h.s1, rfl, h.dn, h.wr⟩, ⟨hm.l0, hm.l1, by simp [RM.disarm], fun a ha => by simp [RM.disarm] at ha, Int.le_refl _, fun a r h' => by simp [RM.disarm] at h', fun _ => rfl⟩⟩
theorem Rel.restart (h : Rel p m) (hm : m.ok) : Same p.restart m.restart := by
  unfold PM.restart RM.restart
  rw [h.dn]
  split
  · exact ⟨⟨h.b0, h.s0, h.b1, h.s1, h.ar, rfl, h.wr⟩, rfl, ⟨hm.l0, hm.l1, hm.la, hm.ha, hm.c0, hm.c1, hm.c2⟩⟩
  · exact same_self h hm _
theorem load_rel (l0 l1 : List Int) : Rel (PM.load l0 l1 2) (RM.load l0 l1) ∧ (RM.load l0 l1).ok :=
  ⟨⟨by simp [PM.load, RM.load], by simp only [PM.load, RM.load, List.length_take]; omega, by simp [PM.load, RM.load], by simp only [PM.load, RM.load, List.length_take]; omega, rfl, rfl, rfl⟩,
   ⟨by simp only [RM.load, List.length_take]; simp; omega, by simp only [RM.load, List.length_take]; simp; omega, by simp [RM.load], fun a ha => by simp [RM.load] at ha, Int.le_refl _, fun a r h' => by simp [RM.load] at h', fun _ => rfl⟩⟩
theorem new_rel : Rel ⟨[], 0, [], 0, [], false, 0⟩ (RM.load [] []) := ⟨rfl, rfl, rfl, rfl, rfl, rfl, rfl⟩
end
end Go.Proofs.Yticokogggepfoaa.D
