/- What one operation may do to a disk's files, told by what is seen of it ahead and behind. No condition but that the disk is whole. -/
import Derived.Test.YticokogggepfoaaLL
namespace Go.Proofs.Yticokogggepfoaa.D
open Go.RowKit Go.Proofs.YticokogggepfoaaW.PrintWords Go.Proofs.YticokogggepfoaaW.PrintLast Go.Proofs.YticokogggepfoaaW.PrintMore Go.Proofs.Yticokogggepfoaa.G
set_option linter.unusedVariables false
set_option linter.unusedSimpArgs false
/-- What is seen of a disk. -/
structure SD where
  r0 : List Int
  r1 : List Int
  d0 : List Int
  d1 : List Int
  dn : Bool
def PM.sd (p : PM) : SD := ⟨(p.read 0).1, (p.read 1).1, (p.dur 0).1, (p.dur 1).1, p.dn⟩
def SD.r (s : SD) (n : Nat) : List Int := if n = 0 then s.r0 else s.r1
def SD.d (s : SD) (n : Nat) : List Int := if n = 0 then s.d0 else s.d1
theorem sd_r (p : PM) (n : Nat) (hn : n < 2) : p.sd.r n = (p.read (n : Int)).1 := by
  rcases (show n = 0 ∨ n = 1 by omega) with rfl | rfl <;> rfl
theorem sd_d (p : PM) (n : Nat) (hn : n < 2) : p.sd.d n = (p.dur (n : Int)).1 := by
  rcases (show n = 0 ∨ n = 1 by omega) with rfl | rfl <;> rfl
theorem not_bad {n : Nat} (hn : n < 2) : ¬ badF (n : Int) := by unfold badF; omega
theorem dur_of (p : PM) {n : Nat} (hn : n < 2) : (p.dur (n : Int)).1 = (p.all n).take (p.sync n) := by unfold PM.dur; rw [if_neg (not_bad hn)]
theorem read_of {p : PM} (hd : p.dn = false) {n : Nat} (hn : n < 2) : (p.read (n : Int)).1 = p.all n := by unfold PM.read; rw [if_neg (not_bad hn), if_neg (by rw [hd]; simp)]
/-- All bytes that a file may hold behind an append. -/
def OM.apd (m : OM) (n : Nat) (r : List Int) : List Int := if (n : Int) = m.fl ∧ (m.kd = 1 ∨ m.kd = 2) then r ++ m.hand else r
def OM.all (m : OM) (n : Nat) (r : List Int) : List Int := if (n : Int) = m.fl then (if m.kd = 1 ∨ m.kd = 2 then r ++ m.hand else if m.kd = 4 then r.take m.a.toNat else r) else r
def OM.sure (m : OM) (n : Nat) (r d : List Int) : List Int := if (n : Int) = m.fl then (if m.kd = 3 then r else if m.kd = 4 then r.take m.a.toNat else d) else d
def OM.fits (m : OM) (s : SD) : Prop := ∀ n : Nat, n < 2 → (n : Int) = m.fl → (m.kd = 1 ∨ m.kd = 2) → (s.r n).length + m.hand.length ≤ 16777216
structure Fell (m : OM) (s t : SD) : Prop where
  kd : 1 ≤ m.kd ∧ m.kd ≤ 4
  pre : ∀ n, n < 2 → s.d n <+: t.d n
  post : ∀ n, n < 2 → t.d n <+: m.apd n (s.r n)
  fits : m.fits s
structure Wrote (m : OM) (s t : SD) : Prop where
  r : ∀ n, n < 2 → t.r n = m.all n (s.r n)
  d : ∀ n, n < 2 → t.d n = m.sure n (s.r n) (s.d n)
  fits : m.fits s
  cut : ∀ n : Nat, n < 2 → (n : Int) = m.fl → m.kd = 4 → 0 ≤ m.a ∧ m.a ≤ (s.r n).length
theorem fin_cases {q : PM} (z : PM → PM) : ((q.fin z).2 = 0 ∧ (q.fin z).1 = z q.write.1) ∨ ((q.fin z).2 = 51 ∧ (q.fin z).1 = q.write.1.fall ∧ ∃ a r, q.write.1.ar = a :: r) := by
  unfold PM.fin
  by_cases h : q.write.2 = true
  · rw [if_pos h]; exact .inl ⟨rfl, rfl⟩
  · rw [if_neg h]
    refine .inr ⟨rfl, rfl, ?_⟩
    have hw : q.write.2 = false := by simpa using h
    cases har : q.ar with
    | nil => unfold PM.write at hw; rw [har] at hw; simp at hw
    | cons a r =>
      have e : q.write.1.ar = (a.1 - 1, a.2) :: r := by unfold PM.write; rw [har]
      exact ⟨_, _, e⟩
theorem fall_all (q : PM) (a : Int × Int) (r : List (Int × Int)) (har : q.ar = a :: r) {n : Nat} (hn : n < 2) :
    q.fall.all n = (q.all n).take (min (q.all n).length (q.sync n + a.2.toNat)) ∧ q.fall.sync n = min (q.all n).length (q.sync n + a.2.toNat) := by
  have e : q.fall = (({ q with ar := r, dn := true } : PM).f0 a.2).f1 a.2 := by unfold PM.fall; rw [har]; rfl
  rw [e]
  rcases (show n = 0 ∨ n = 1 by omega) with rfl | rfl <;> exact ⟨rfl, rfl⟩
theorem write_all (q : PM) (n : Int) : q.write.1.all n = q.all n ∧ q.write.1.sync n = q.sync n := by
  obtain ⟨h0, h1, h2, h3, _⟩ := write_len q
  unfold PM.all PM.sync; rw [h0, h1, h2, h3]; exact ⟨rfl, rfl⟩
theorem pre_take {l r : List Int} (h : l <+: r) {s k : Nat} (hs : s ≤ l.length) (hk : s ≤ k) : l.take s <+: r.take k := by
  obtain ⟨t, rfl⟩ := h
  have e : l.take s = ((l ++ t).take k).take s := by rw [List.take_take, Nat.min_eq_left hk, List.take_append_of_le_length hs]
  rw [e]; exact List.take_prefix _ _
theorem setB_all (p : PM) (n : Nat) (hn : n < 2) (fl : Int) (hf : ¬ badF fl) (xs : List Int) : (p.setB fl xs).all n = (if (n : Int) = fl then xs else p.all n) ∧ (p.setB fl xs).sync n = p.sync n := by
  unfold badF at hf
  unfold PM.setB PM.all PM.sync
  rcases (show n = 0 ∨ n = 1 by omega) with rfl | rfl
  · by_cases h0 : fl = 0
    · subst h0; simp
    · have h1 : fl = 1 := by omega
      subst h1; simp
  · by_cases h0 : fl = 0
    · subst h0; simp
    · obtain rfl : fl = 1 := by omega
      simp
theorem setS_all (p : PM) (n : Nat) (hn : n < 2) (fl : Int) (hf : ¬ badF fl) (s : Nat) : (p.setS fl s).all n = p.all n ∧ (p.setS fl s).sync n = (if (n : Int) = fl then s else p.sync n) := by
  unfold badF at hf
  unfold PM.setS PM.all PM.sync
  rcases (show n = 0 ∨ n = 1 by omega) with rfl | rfl
  · by_cases h0 : fl = 0
    · subst h0; simp
    · have h1 : fl = 1 := by omega
      subst h1; simp
  · by_cases h0 : fl = 0
    · subst h0; simp
    · obtain rfl : fl = 1 := by omega
      simp
section
variable {m : OM} {n : Nat} {r d : List Int}
theorem OM.all_ne (h : ¬ (n : Int) = m.fl) : m.all n r = r := by unfold OM.all; rw [if_neg h]
theorem OM.all_app (h : (n : Int) = m.fl) (hk : m.kd = 1 ∨ m.kd = 2) : m.all n r = r ++ m.hand := by unfold OM.all; rw [if_pos h, if_pos hk]
theorem OM.all_sync (hk : m.kd = 3) : m.all n r = r := by unfold OM.all; rw [if_neg (show ¬ (m.kd = 1 ∨ m.kd = 2) by omega), if_neg (show ¬ m.kd = 4 by omega)]; split <;> rfl
theorem OM.all_cut (h : (n : Int) = m.fl) (hk : m.kd = 4) : m.all n r = r.take m.a.toNat := by unfold OM.all; rw [if_pos h, if_neg (by omega), if_pos hk]
theorem OM.sure_ne (h : ¬ (n : Int) = m.fl) : m.sure n r d = d := by unfold OM.sure; rw [if_neg h]
theorem OM.sure_app (hk : m.kd = 1 ∨ m.kd = 2) : m.sure n r d = d := by unfold OM.sure; rw [if_neg (show ¬ m.kd = 3 by omega), if_neg (show ¬ m.kd = 4 by omega)]; split <;> rfl
theorem OM.sure_sync (h : (n : Int) = m.fl) (hk : m.kd = 3) : m.sure n r d = r := by unfold OM.sure; rw [if_pos h, if_pos hk]
theorem OM.sure_cut (h : (n : Int) = m.fl) (hk : m.kd = 4) : m.sure n r d = r.take m.a.toNat := by unfold OM.sure; rw [if_pos h, if_neg (by omega), if_pos hk]
end
/-- A disk that falls at a write of q: what is durable then. -/
theorem fell_of {p q : PM} (hp : p.ok) (hq : ∀ n : Nat, n < 2 → p.all n <+: q.all n ∧ q.sync n = p.sync n) {a : Int × Int} {r : List (Int × Int)} (har : q.write.1.ar = a :: r) (n : Nat) (hn : n < 2) :
    (p.dur (n : Int)).1 <+: (q.write.1.fall.dur (n : Int)).1 ∧ (q.write.1.fall.dur (n : Int)).1 <+: q.all n := by
  obtain ⟨h1, h2⟩ := fall_all _ a r har hn
  obtain ⟨h3, h4⟩ := write_all q (n : Int)
  obtain ⟨h5, h6⟩ := hq n hn
  rw [dur_of _ hn, dur_of _ hn, h1, h2, h3, h4, h6, List.take_take, Nat.min_self]
  have hl := h5.length_le
  have hs := sync_len hp (n : Int)
  exact ⟨pre_take h5 hs (by omega), List.take_prefix _ _⟩
/-- What a refused or a quiet step leaves. -/
structure Else (m : OM) (p t : PM) : Prop where
  d : ∀ n : Nat, n < 2 → t.sd.d n = p.sd.d n
  r : p.dn = false → ∀ n : Nat, n < 2 → t.sd.r n = p.sd.r n
  up : p.dn = true → t.dn = false → m.kd = 9 ∧ ∀ n : Nat, n < 2 → t.sd.r n = t.sd.d n
theorem else_self (m : OM) {p t : PM} (h0 : t.b0 = p.b0) (h1 : t.b1 = p.b1) (h2 : t.s0 = p.s0) (h3 : t.s1 = p.s1) (h4 : t.dn = p.dn) : Else m p t := by
  have ea : ∀ n, t.all n = p.all n := fun n => by unfold PM.all; rw [h0, h1]
  have es : ∀ n, t.sync n = p.sync n := fun n => by unfold PM.sync; rw [h2, h3]
  refine ⟨fun n hn => ?_, fun hd n hn => ?_, fun h5 h6 => ?_⟩
  · rw [sd_d _ n hn, sd_d _ n hn, dur_of _ hn, dur_of _ hn, ea, es]
  · rw [sd_r _ n hn, sd_r _ n hn, read_of hd hn, read_of (h4.trans hd) hn, ea]
  · rw [h4, h5] at h6; cases h6
/-- What a step comes to: fallen, written, or neither. -/
def Step (m : OM) (p t : PM) (e : Int) : Prop :=
  (p.dn = false ∧ t.dn = true ∧ e = 51 ∧ Fell m p.sd t.sd) ∨ (p.dn = false ∧ t.dn = false ∧ e = 0 ∧ 1 ≤ m.kd ∧ m.kd ≤ 4 ∧ Wrote m p.sd t.sd) ∨ (¬ (p.dn = false ∧ t.dn = true) ∧ ¬ (e = 0 ∧ 1 ≤ m.kd ∧ m.kd ≤ 4) ∧ Else m p t)
theorem step_no (m : OM) {p : PM} {e : Int} (he : e ≠ 0) : Step m p p e := .inr (.inr ⟨fun h => (by rw [h.1] at h; cases h.2), fun h => he h.1, else_self m rfl rfl rfl rfl rfl⟩)
theorem step_append {m : OM} {p : PM} (h : p.fit) (hk : m.kd = 1 ∨ m.kd = 2) : Step m p (p.append m.fl m.hand).1 (p.append m.fl m.hand).2 := by
  unfold PM.append
  by_cases hb : badF m.fl
  · rw [if_pos hb]; exact step_no m (by simp)
  rw [if_neg hb]
  by_cases hd : p.dn = true
  · rw [if_pos hd]; exact step_no m (by simp)
  rw [if_neg hd]
  have hd' : p.dn = false := by simpa using hd
  by_cases hl : 16777216 < (p.all m.fl).length + m.hand.length
  · rw [if_pos hl]; exact step_no m (by simp)
  rw [if_neg hl]
  have hfits : m.fits p.sd := fun n hn hf _ => by rw [sd_r _ n hn, read_of hd' hn, hf]; omega
  have ea : ∀ n : Nat, n < 2 → (p.setB m.fl (p.all m.fl ++ m.hand)).all n = m.apd n (p.all n) := fun n hn => by
    rw [(setB_all p n hn m.fl hb _).1]
    unfold OM.apd
    by_cases hf : (n : Int) = m.fl
    · rw [if_pos hf, if_pos ⟨hf, hk⟩, hf]
    · rw [if_neg hf, if_neg (fun h_ => hf h_.1)]
  have es : ∀ n : Nat, n < 2 → (p.setB m.fl (p.all m.fl ++ m.hand)).sync n = p.sync n := fun n hn => (setB_all p n hn m.fl hb _).2
  have hpre : ∀ n : Nat, p.all n <+: m.apd n (p.all n) := fun n => by
    unfold OM.apd; split
    · exact List.prefix_append _ _
    · exact List.prefix_rfl
  rcases fin_cases (q := p.setB m.fl (p.all m.fl ++ m.hand)) id with ⟨h1, h2⟩ | ⟨h1, h2, a, r, har⟩
  · rw [h1, h2]
    have hdn : (id (p.setB m.fl (p.all m.fl ++ m.hand)).write.1 : PM).dn = false := by rw [id, (write_len _).2.2.2.2, setB_dn, hd']
    refine .inr (.inl ⟨hd', hdn, rfl, by omega, by omega, fun n hn => ?_, fun n hn => ?_, hfits, fun n _ _ h4 => by omega⟩)
    · rw [sd_r _ n hn, read_of hdn hn, sd_r _ n hn, read_of hd' hn, id, (write_all _ _).1, ea n hn]
      unfold OM.apd OM.all
      by_cases hf : (n : Int) = m.fl
      · rw [if_pos ⟨hf, hk⟩, if_pos hf, if_pos hk]
      · rw [if_neg (fun h_ => hf h_.1), if_neg hf]
    · rw [sd_d _ n hn, sd_d _ n hn, dur_of _ hn, dur_of _ hn, id, (write_all _ _).1, (write_all _ _).2, ea n hn, es n hn]
      unfold OM.sure
      have e : (m.apd n (p.all n)).take (p.sync n) = (p.all n).take (p.sync n) := by
        obtain ⟨t, ht⟩ := hpre n
        rw [← ht, List.take_append_of_le_length (sync_len h.ok n)]
      rw [e]
      by_cases hf : (n : Int) = m.fl
      · rw [if_pos hf, if_neg (by omega), if_neg (by omega)]
      · rw [if_neg hf]
  · rw [h1, h2]
    refine .inl ⟨hd', (fall_down _ a r har).1, rfl, by omega, fun n hn => ?_, fun n hn => ?_, hfits⟩
    · rw [sd_d _ n hn, sd_d _ n hn]
      exact (fell_of h.ok (fun n hn => ⟨by rw [ea n hn]; exact hpre n, es n hn⟩) har n hn).1
    · rw [sd_d _ n hn, sd_r _ n hn, read_of hd' hn, ← ea n hn]
      exact (fell_of h.ok (fun n hn => ⟨by rw [ea n hn]; exact hpre n, es n hn⟩) har n hn).2
theorem fell_self {m : OM} {p : PM} (h : p.fit) (hd : p.dn = false) (hk : 1 ≤ m.kd ∧ m.kd ≤ 4) (hk2 : ¬ (m.kd = 1 ∨ m.kd = 2)) {a : Int × Int} {r : List (Int × Int)} (har : p.write.1.ar = a :: r) : Fell m p.sd p.write.1.fall.sd := by
  have hx := fell_of (q := p) h.ok (fun n hn => ⟨List.prefix_rfl, rfl⟩) har
  refine ⟨hk, fun n hn => ?_, fun n hn => ?_, fun n hn _ h_ => absurd h_ hk2⟩
  · rw [sd_d _ n hn, sd_d _ n hn]; exact (hx n hn).1
  · rw [sd_d _ n hn, sd_r _ n hn, read_of hd hn]
    unfold OM.apd
    rw [if_neg (fun h_ => hk2 h_.2)]; exact (hx n hn).2
theorem step_sync {m : OM} {p : PM} (h : p.fit) (hk : m.kd = 3) : Step m p (p.syncf m.fl).1 (p.syncf m.fl).2 := by
  unfold PM.syncf
  by_cases hb : badF m.fl
  · rw [if_pos hb]; exact step_no m (by simp)
  rw [if_neg hb]
  by_cases hd : p.dn = true
  · rw [if_pos hd]; exact step_no m (by simp)
  rw [if_neg hd]
  have hd' : p.dn = false := by simpa using hd
  rcases fin_cases (q := p) (fun q => q.setS m.fl (q.all m.fl).length) with ⟨h1, h2⟩ | ⟨h1, h2, a, r, har⟩
  · rw [h1, h2]
    have hdn : (p.write.1.setS m.fl (p.write.1.all m.fl).length).dn = false := by rw [setS_dn, (write_len _).2.2.2.2, hd']
    refine .inr (.inl ⟨hd', hdn, rfl, by omega, by omega, fun n hn => ?_, fun n hn => ?_, fun n _ _ h_ => by omega, fun n _ _ h4 => by omega⟩)
    · rw [sd_r _ n hn, read_of hdn hn, sd_r _ n hn, read_of hd' hn, (setS_all _ n hn _ hb _).1, (write_all _ _).1]
      unfold OM.all
      split
      · rw [if_neg (by omega), if_neg (by omega)]
      · rfl
    · rw [sd_d _ n hn, sd_d _ n hn, sd_r _ n hn, read_of hd' hn, dur_of _ hn, dur_of _ hn, (setS_all _ n hn _ hb _).1, (setS_all _ n hn _ hb _).2, (write_all _ _).1, (write_all _ _).1, (write_all _ _).2]
      unfold OM.sure
      by_cases hf : (n : Int) = m.fl
      · rw [if_pos hf, if_pos hf, if_pos hk, hf, List.take_length]
      · rw [if_neg hf, if_neg hf]
  · rw [h1, h2]
    exact .inl ⟨hd', (fall_down _ a r har).1, rfl, fell_self h hd' (by omega) (by omega) har⟩
theorem step_trunc {m : OM} {p : PM} (h : p.fit) (hk : m.kd = 4) : Step m p (p.trunc m.fl m.a).1 (p.trunc m.fl m.a).2 := by
  unfold PM.trunc
  by_cases hb : badF m.fl
  · rw [if_pos hb]; exact step_no m (by simp)
  rw [if_neg hb]
  by_cases hd : p.dn = true
  · rw [if_pos hd]; exact step_no m (by simp)
  rw [if_neg hd]
  have hd' : p.dn = false := by simpa using hd
  by_cases hs : m.a < 0 ∨ ((p.all m.fl).length : Int) < m.a
  · rw [if_pos hs]; exact step_no m (by simp)
  rw [if_neg hs]
  rcases fin_cases (q := p) (fun q => (q.setB m.fl ((q.all m.fl).take m.a.toNat)).setS m.fl m.a.toNat) with ⟨h1, h2⟩ | ⟨h1, h2, a, r, har⟩
  · rw [h1, h2]
    have hdn : ((p.write.1.setB m.fl ((p.write.1.all m.fl).take m.a.toNat)).setS m.fl m.a.toNat).dn = false := by rw [setS_dn, setB_dn, (write_len _).2.2.2.2, hd']
    refine .inr (.inl ⟨hd', hdn, rfl, by omega, by omega, fun n hn => ?_, fun n hn => ?_, fun n _ _ h_ => by omega, fun n hn hf h4 => ?_⟩)
    · rw [sd_r _ n hn, read_of hdn hn, sd_r _ n hn, read_of hd' hn, (setS_all _ n hn _ hb _).1, (setB_all _ n hn _ hb _).1, (write_all _ _).1, (write_all _ _).1]
      unfold OM.all
      by_cases hf : (n : Int) = m.fl
      · rw [if_pos hf, if_pos hf, if_neg (by omega), if_pos hk, hf]
      · rw [if_neg hf, if_neg hf]
    · rw [sd_d _ n hn, sd_d _ n hn, sd_r _ n hn, read_of hd' hn, dur_of _ hn, dur_of _ hn, (setS_all _ n hn _ hb _).1, (setS_all _ n hn _ hb _).2, (setB_all _ n hn _ hb _).1, (setB_all _ n hn _ hb _).2, (write_all _ _).1, (write_all _ _).1, (write_all _ _).2]
      unfold OM.sure
      by_cases hf : (n : Int) = m.fl
      · rw [if_pos hf, if_pos hf, if_pos hf, if_neg (by omega), if_pos hk, hf, List.take_take, Nat.min_self]
      · rw [if_neg hf, if_neg hf, if_neg hf]
    · rw [sd_r _ n hn, read_of hd' hn, hf]; omega
  · rw [h1, h2]
    exact .inl ⟨hd', (fall_down _ a r har).1, rfl, fell_self h hd' (by omega) (by omega) har⟩
theorem step_restart {m : OM} {p : PM} (h : p.fit) (hk : m.kd = 9) : Step m p p.restart.1 p.restart.2 := by
  unfold PM.restart
  by_cases hd : p.dn = true
  · rw [if_pos hd]
    obtain ⟨e0, e1⟩ := h.down hd
    refine .inr (.inr ⟨fun h_ => (by rw [hd] at h_; cases h_.1), fun h_ => by omega, fun n hn => ?_, fun h_ => (by rw [hd] at h_; cases h_), fun _ _ => ⟨hk, fun n hn => ?_⟩⟩)
    · rw [sd_d _ n hn, sd_d _ n hn]; rfl
    · rw [sd_d _ n hn, sd_r _ n hn, read_of rfl hn, dur_of _ hn]
      rcases (show n = 0 ∨ n = 1 by omega) with rfl | rfl
      · show p.b0 = p.b0.take p.s0; rw [e0, List.take_length]
      · show p.b1 = p.b1.take p.s1; rw [e1, List.take_length]
  · rw [if_neg hd]; exact step_no m (by simp)
theorem step_done {p : PM} (h : p.fit) (m : OM) : Step m p (m.done p).1 (m.done p).2 := by
  unfold OM.done
  by_cases h1 : m.kd = 1 ∨ m.kd = 2
  · rw [if_pos h1]; exact step_append h h1
  rw [if_neg h1]
  by_cases h3 : m.kd = 3
  · rw [if_pos h3]; exact step_sync h h3
  rw [if_neg h3]
  by_cases h4 : m.kd = 4
  · rw [if_pos h4]; exact step_trunc h h4
  rw [if_neg h4]
  have hself : ∀ {t : PM} {e : Int}, t.b0 = p.b0 → t.b1 = p.b1 → t.s0 = p.s0 → t.s1 = p.s1 → t.dn = p.dn → Step m p t e := fun h0 h1 h2 h3_ h4_ =>
    .inr (.inr ⟨fun h_ => (by rw [h4_, h_.1] at h_; cases h_.2), fun h_ => by omega, else_self m h0 h1 h2 h3_ h4_⟩)
  by_cases h7 : m.kd = 7
  · rw [if_pos h7]
    unfold PM.arm
    split
    · exact hself rfl rfl rfl rfl rfl
    split
    · exact hself rfl rfl rfl rfl rfl
    · exact hself rfl rfl rfl rfl rfl
  rw [if_neg h7]
  by_cases h8 : m.kd = 8
  · rw [if_pos h8]; exact hself rfl rfl rfl rfl rfl
  rw [if_neg h8]
  by_cases h9 : m.kd = 9
  · rw [if_pos h9]; exact step_restart h h9
  · rw [if_neg h9]; exact hself rfl rfl rfl rfl rfl
end Go.Proofs.Yticokogggepfoaa.D
