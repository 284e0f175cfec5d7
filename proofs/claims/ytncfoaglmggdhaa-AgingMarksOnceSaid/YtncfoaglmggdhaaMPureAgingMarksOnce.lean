/- AgingMarksOnce: of every plan, position, days and grace the law's answer is true: what was missed and is marked is not missed again; marking changes no day. -/
import Derived.Test.YtncfoaglmggdhaaMAgeB
import Derived.Test.YtncfoaglmggdhaaMx10
import Derived.Test.YtncfoaglmggdhaaMx8
import Derived.Test.YtncfoaglmggdhaaMx9
namespace Go.Proofs.Ytncfoaglmggdhaa.M
open Go.RowKit Go.Proofs.YtncfoaglmggdhaaW.PrintWords Go.Proofs.YtncfoaglmggdhaaW.PrintLast Go.Proofs.YtncfoaglmggdhaaW.PrintMore
set_option linter.unusedVariables false
set_option linter.unusedSimpArgs false

theorem lsound_is (l : List Row) (hw : rowsOk l) (k : Nat) (hk : 2000 < k) : ∃ b, arrearslaw10_sound.f k l = some b ∧ (b = true → Snd l ∧ 0 < l.length ∧ l.length ≤ 400) := by
  unfold arrearslaw10_sound.f
  by_cases c : (l.length : Int) > 0
  · rw [if_pos c]
    by_cases c2 : (l.length : Int) ≤ 400
    · rw [if_pos c2]
      obtain ⟨b, hb, hi⟩ := ref_Sound l hw (by omega) k hk
      rw [hb]
      exact ⟨b, rfl, fun h => ⟨hi.1 h, by omega, by omega⟩⟩
    · rw [if_neg c2]; exact ⟨false, rfl, fun h => by cases h⟩
  · rw [if_neg c]; exact ⟨false, rfl, fun h => by cases h⟩
/-- The rows from row i on, d of them, that are missed. -/
def miss (l : List Row) (t g : Int) : Nat → Nat → List Int
  | _, 0 => []
  | i, d + 1 => if lateD l i t ≤ mx g 0 then [] else if (rr l (i : Int)).f3 = true then miss l t g (i + 1) d else (i : Int) :: miss l t g (i + 1) d
theorem miss_len (l : List Row) (t g : Int) : ∀ (d i : Nat), (miss l t g i d).length ≤ d := by
  intro d
  induction d with
  | zero => intro i; simp [miss]
  | succ d ih =>
    intro i
    have := ih (i + 1)
    simp only [miss]
    split
    · simp
    · split
      · omega
      · rw [List.length_cons]; omega
theorem miss_mem (l : List Row) (t g : Int) : ∀ (d i : Nat) (x : Int), x ∈ miss l t g i d → ∃ j : Nat, x = (j : Int) ∧ i ≤ j ∧ j < i + d ∧ (rr l (j : Int)).f3 = false := by
  intro d
  induction d with
  | zero => intro i x h; simp [miss] at h
  | succ d ih =>
    intro i x h
    simp only [miss] at h
    split at h
    · simp at h
    · split at h
      · obtain ⟨j, h1, h2, h3, h4⟩ := ih (i + 1) x h
        exact ⟨j, h1, by omega, by omega, h4⟩
      · rename_i hm
        rw [List.mem_cons] at h
        rcases h with rfl | h
        · exact ⟨i, rfl, Nat.le_refl _, by omega, by simpa using hm⟩
        · obtain ⟨j, h1, h2, h3, h4⟩ := ih (i + 1) x h
          exact ⟨j, h1, by omega, by omega, h4⟩
theorem miss_all (l : List Row) (t g : Int) : ∀ (d i j : Nat), i ≤ j → j < i + d → (∀ q, i ≤ q → q ≤ j → mx g 0 < lateD l q t) → (rr l (j : Int)).f3 = false → (j : Int) ∈ miss l t g i d := by
  intro d
  induction d with
  | zero => intro i j h1 h2; omega
  | succ d ih =>
    intro i j h1 h2 hq hm
    have hi := hq i (Nat.le_refl _) h1
    simp only [miss]
    rw [if_neg (by omega)]
    by_cases c : i = j
    · subst c
      rw [if_neg (by rw [hm]; simp)]; simp
    · have := ih (i + 1) j (by omega) (by omega) (fun q h3 h4 => hq q (by omega) h4) hm
      split
      · exact this
      · exact List.mem_cons_of_mem _ this
theorem miss_none (l : List Row) (t g : Int) : ∀ (d i : Nat), (∀ j, i ≤ j → j < i + d → (∀ q, i ≤ q → q ≤ j → mx g 0 < lateD l q t) → (rr l (j : Int)).f3 = true) → miss l t g i d = [] := by
  intro d
  induction d with
  | zero => intro i _; rfl
  | succ d ih =>
    intro i h
    simp only [miss]
    by_cases c : lateD l i t ≤ mx g 0
    · rw [if_pos c]
    · rw [if_neg c, if_pos (h i (Nat.le_refl _) (by omega) (fun q h1 h2 => by rw [show q = i from by omega]; omega))]
      exact ih (i + 1) (fun j h1 h2 hq => h j (by omega) (by omega) (fun q h3 h4 => by
        by_cases e : q = i
        · subst e; omega
        · exact hq q (by omega) h4))
theorem missed_loop (l : List Row) (hs : Snd l) (hl : l.length ≤ 400) (t g : Int) (ht : t ≤ 9223372036854775807) (d : Nat) : ∀ (k i : Nat) (acc : List Int), i + d = l.length → d < k → acc.length ≤ i →
    aging_Missed.l0 k l t g acc (i : Int) = some (acc ++ miss l t g i d) := by
  induction d with
  | zero =>
    intro k i acc hi hk ha
    obtain ⟨k, rfl⟩ : ∃ m, k = m + 1 := ⟨k - 1, by omega⟩
    simp only [aging_Missed.l0]
    rw [if_neg (by omega)]; simp [miss]
  | succ d ih =>
    intro k i acc hi hk ha
    obtain ⟨k, rfl⟩ : ∃ m, k = m + 1 := ⟨k - 1, by omega⟩
    have hdue := hs.due i (by omega)
    have hlate : ∀ b : Bool, aging_lateness.f ((rr l (i : Int)).f0) ((rr l (i : Int)).f1) ((rr l (i : Int)).f2) b t = some (lateD l i t) := by
      intro b
      unfold aging_lateness.f lateD
      split
      · rfl
      · rw [pl_w64 (by omega) (by omega)]
    simp only [aging_Missed.l0]
    rw [if_pos (by omega), if_pos (by omega)]
    show Option.bind (aging_lateness.f ((rr l (i : Int)).f0) ((rr l (i : Int)).f1) ((rr l (i : Int)).f2) ((rr l (i : Int)).f3) t) _ = _
    rw [hlate, Option.bind_some, show wrap64 ((i : Int) + 1) = ((i + 1 : Nat) : Int) from by rw [pl_w64 (by omega) (by omega)]; omega]
    simp only [miss]
    by_cases c : lateD l i t ≤ mx g 0
    · rw [if_pos c, if_pos c]; simp
    · rw [if_neg c, if_neg c]
      show (if ((rr l (i : Int)).f3 = true) then _ else _) = _
      by_cases m : (rr l (i : Int)).f3 = true
      · rw [if_pos m, if_pos m]
        exact ih k (i + 1) acc (by omega) (by omega) (by omega)
      · rw [if_neg m, if_neg m, if_pos (by omega), ih k (i + 1) _ (by omega) (by omega) (by rw [List.length_append, List.length_singleton]; omega)]
        simp
/-- Which rows are missed. -/
def missL (l : List Row) (R t g : Int) (n : Nat) : List Int := if R ≤ 0 then [] else miss l t g n (l.length - n)
theorem missed_is {l : List Row} (hw : rowsOk l) (hs : Snd l) (hl : l.length ≤ 400) (h0 : 0 < l.length) {a R : Int} (ha : a ≤ 9223372036854775807) {n : Nat} (hf : R ≤ 0 ∨ Fr l (app a) n) (t g : Int) (ht : t ≤ 9223372036854775807) {k : Nat} (hk : 1000 < k) :
    aging_Missed.f k l a R t g = some (missL l R t g n) := by
  unfold aging_Missed.f missL
  by_cases c : R ≤ 0
  · rw [oldest_done hw hs hl c]; simp [c]
  · rcases hf with hf | hf
    · exact absurd hf c
    · obtain ⟨m, _, ho, hm⟩ := satisfied_is hw hs hl h0 ha (k := k) (by omega) c
      obtain rfl := Fr.uniq hs hf hm
      rw [ho, Option.bind_some, if_pos rfl, if_neg c]
      have hn := hf.1
      have := missed_loop l hs hl t g ht (l.length - n) k n [] (by omega) (by omega) (by simp)
      simpa using this
theorem missL_len (l : List Row) (R t g : Int) (n : Nat) : (missL l R t g n).length ≤ l.length := by
  unfold missL
  split
  · simp
  · have := miss_len l t g (l.length - n) n
    omega
/-! marking -/
theorem one_len (l : List Row) (i : Int) : (aging_Mark.markOne l i).length = l.length := by
  unfold aging_Mark.markOne
  split
  · simp
  · rfl
theorem one_at (l : List Row) (i : Int) (j : Nat) (hj : j < l.length) : rr (aging_Mark.markOne l i) (j : Int) = ⟨(rr l (j : Int)).f0, (rr l (j : Int)).f1, (rr l (j : Int)).f2, (rr l (j : Int)).f3 || decide ((j : Int) = i)⟩ := by
  unfold aging_Mark.markOne
  by_cases c : 0 ≤ i ∧ i < l.length
  · rw [if_pos c]
    have e : rr (l.set i.toNat ⟨(rr l i).f0, (rr l i).f1, (rr l i).f2, true⟩) (j : Int) = if i.toNat = j then ⟨(rr l i).f0, (rr l i).f1, (rr l i).f2, true⟩ else rr l (j : Int) := by
      rw [rr_at _ j (by simpa using hj), rr_at l j hj, List.getElem_set]
    show rr (l.set i.toNat ⟨(rr l i).f0, (rr l i).f1, (rr l i).f2, true⟩) (j : Int) = _
    rw [e]
    by_cases d : i.toNat = j
    · have d' : i = (j : Int) := by omega
      rw [if_pos d, d', decide_eq_true rfl, Bool.or_true]
    · rw [if_neg d, decide_eq_false (by omega), Bool.or_false]
  · rw [if_neg c, decide_eq_false (by omega), Bool.or_false]
theorem all_len (is : List Int) : ∀ l : List Row, (aging_Mark.markAll l is).length = l.length := by
  induction is with
  | nil => intro l; rfl
  | cons i is ih =>
    intro l
    show (aging_Mark.markAll (aging_Mark.markOne l i) is).length = _
    rw [ih, one_len]
theorem all_at (is : List Int) : ∀ (l : List Row) (j : Nat), j < l.length → rr (aging_Mark.markAll l is) (j : Int) = ⟨(rr l (j : Int)).f0, (rr l (j : Int)).f1, (rr l (j : Int)).f2, (rr l (j : Int)).f3 || decide ((j : Int) ∈ is)⟩ := by
  induction is with
  | nil => intro l j hj; show rr l (j : Int) = _; simp
  | cons i is ih =>
    intro l j hj
    show rr (aging_Mark.markAll (aging_Mark.markOne l i) is) (j : Int) = _
    rw [ih _ j (by rw [one_len]; exact hj), one_at l i j hj]
    dsimp only
    rw [Bool.or_assoc]
    congr 2
    by_cases e : (j : Int) = i
    · simp [e]
    · by_cases m : (j : Int) ∈ is <;> simp [e, m]
/-- The same plan but for its marks. -/
structure Alike (l m : List Row) : Prop where
  len : m.length = l.length
  at0 : ∀ i, i < l.length → (rr m (i : Int)).f0 = (rr l (i : Int)).f0
  at1 : ∀ i, i < l.length → (rr m (i : Int)).f1 = (rr l (i : Int)).f1
  at2 : ∀ i, i < l.length → (rr m (i : Int)).f2 = (rr l (i : Int)).f2
theorem alike_mark (l : List Row) (is : List Int) : Alike l (aging_Mark.markAll l is) :=
  ⟨all_len is l, fun i h => by rw [all_at is l i h], fun i h => by rw [all_at is l i h], fun i h => by rw [all_at is l i h]⟩
theorem Alike.pre {l m : List Row} (h : Alike l m) : ∀ i, i ≤ l.length → pre m i = pre l i := by
  intro i
  induction i with
  | zero => intro _; rw [pre_zero, pre_zero]
  | succ i ih =>
    intro hi
    rw [pre_succ m i (by rw [h.len]; omega), pre_succ l i (by omega), ih (by omega)]
    unfold amt
    rw [h.at1 i (by omega), h.at2 i (by omega)]
theorem Alike.snd {l m : List Row} (h : Alike l m) (hs : Snd l) : Snd m := by
  have hl := h.len
  refine ⟨fun i hi => ?_, fun i hi => ?_, fun i hi => ?_, ?_⟩
  · rw [h.at0 i (by omega)]; exact hs.due i (by omega)
  · rw [h.at0 i (by omega), h.at0 (i + 1) (by omega)]; exact hs.rise i (by omega)
  · rw [h.at1 i (by omega), h.at2 i (by omega)]; exact hs.pos i (by omega)
  · rw [hl, h.pre _ (Nat.le_refl _)]; exact hs.fits
theorem Alike.fr {l m : List Row} (h : Alike l m) {A : Int} {n : Nat} (hf : Fr l A n) : Fr m A n := by
  have hn := hf.1
  refine ⟨by rw [h.len]; exact hn, by rw [h.pre n (by omega)]; exact hf.2.1, ?_⟩
  rw [h.len, h.pre (n + 1) (by omega)]
  exact hf.2.2
theorem Alike.late {l m : List Row} (h : Alike l m) {i : Nat} (hi : i < l.length) (t : Int) : lateD m i t = lateD l i t := by
  unfold lateD; rw [h.at0 i hi]
theorem mark_ok (l : List Row) (hw : rowsOk l) (is : List Int) : rowsOk (aging_Mark.markAll l is) := by
  intro r hr
  obtain ⟨j, hj, rfl⟩ := List.mem_iff_getElem.1 hr
  have hj2 : j < l.length := by rw [all_len] at hj; exact hj
  have e := all_at is l j hj2
  rw [rr_at _ j hj] at e
  have hm : rr l (j : Int) ∈ l := by rw [rr_at l j hj2]; exact List.getElem_mem _
  have hok := hw _ hm
  rw [e]
  unfold WF31 at hok ⊢
  exact hok
/-- No index of the one list stands in the other: the law's two loops come to their end. -/
theorem loops (l0 m : List Row) (t1 t2 g : Int) (rows again : List Int) (A R : Int) (hr : rows.length ≤ 400) (ha : again.length ≤ 400) (hno : ∀ x ∈ again, ∀ y ∈ rows, x ≠ y) (v : Option Bool) (kz : Nat)
    (hend : ∀ k, kz ≤ k → arrearslaw10_AgingMarksOnce.l0 (k + 1) l0 t1 t2 g rows m again (again.length : Int) A R = v) (d : Nat) :
    ∀ (i k : Nat), i + d = again.length → kz + 500 * d < k → arrearslaw10_AgingMarksOnce.l0 k l0 t1 t2 g rows m again (i : Int) A R = v := by
  induction d with
  | zero =>
    intro i k hi hk
    obtain ⟨k, rfl⟩ : ∃ q, k = q + 1 := ⟨k - 1, by omega⟩
    have : i = again.length := by omega
    subst this
    exact hend k (by omega)
  | succ d ih =>
    intro i k hi hk
    obtain ⟨k, rfl⟩ : ∃ q, k = q + 1 := ⟨k - 1, by omega⟩
    have inner : ∀ (e j k2 : Nat), j + e = rows.length → kz + 500 * d + e + 2 < k2 → arrearslaw10_AgingMarksOnce.l1 k2 l0 t1 t2 g rows m again (i : Int) (j : Int) A R = v := by
      intro e
      induction e with
      | zero =>
        intro j k2 hj hk2
        obtain ⟨k2, rfl⟩ : ∃ q, k2 = q + 1 := ⟨k2 - 1, by omega⟩
        simp only [arrearslaw10_AgingMarksOnce.l1]
        rw [if_neg (by omega), show wrap64 ((i : Int) + 1) = ((i + 1 : Nat) : Int) from by rw [pl_w64 (by omega) (by omega)]; omega]
        exact ih (i + 1) k2 (by omega) (by omega)
      | succ e ih2 =>
        intro j k2 hj hk2
        obtain ⟨k2, rfl⟩ : ∃ q, k2 = q + 1 := ⟨k2 - 1, by omega⟩
        simp only [arrearslaw10_AgingMarksOnce.l1]
        have e1 : rd again (i : Int) = again[i] := by unfold rd; simp [show i < again.length from by omega]
        have e2 : rd rows (j : Int) = rows[j] := by unfold rd; simp [show j < rows.length from by omega]
        rw [if_pos (by omega), if_pos (by omega), if_pos (by omega), if_pos (by omega), e1, e2, if_neg (hno _ (List.getElem_mem _) _ (List.getElem_mem _)), show wrap64 ((j : Int) + 1) = ((j + 1 : Nat) : Int) from by rw [pl_w64 (by omega) (by omega)]; omega]
        exact ih2 (j + 1) k2 (by omega) (by omega)
    simp only [arrearslaw10_AgingMarksOnce.l0]
    rw [if_pos (by omega)]
    exact inner rows.length 0 k (by omega) (by omega)
theorem once_main (l : List Row) (hw : rowsOk l) (hs : Snd l) (h0 : 0 < l.length) (hlen : l.length ≤ 400) (a R t u g : Int) (ha : a ≤ 9223372036854775807) (ht : t ≤ 9223372036854775807) (hu : u ≤ 9223372036854775807) (n : Nat) (hf : R ≤ 0 ∨ Fr l (app a) n) (k : Nat) (hk : 300000 < k) :
    arrearslaw10_AgingMarksOnce.j0 (k + 1) l t u g (missL l R t g n) false a R = some true := by
  have hal := alike_mark l (missL l R t g n)
  have hwm := mark_ok l hw (missL l R t g n)
  have hsm := hal.snd hs
  have hlm : (aging_Mark.markAll l (missL l R t g n)).length ≤ 400 := by rw [hal.len]; exact hlen
  have h0m : 0 < (aging_Mark.markAll l (missL l R t g n)).length := by rw [hal.len]; exact h0
  have hfm : R ≤ 0 ∨ Fr (aging_Mark.markAll l (missL l R t g n)) (app a) n := by
    rcases hf with h | h
    · exact .inl h
    · exact .inr (hal.fr h)
  have hat := all_at (missL l R t g n) l
  have hr := missL_len l R t g n
  simp only [arrearslaw10_AgingMarksOnce.j0, Bool.false_eq_true, if_false]
  have hmark : aging_Mark.f l (missL l R t g n) = some (aging_Mark.markAll l (missL l R t g n)) := by unfold aging_Mark.f; rw [if_pos (by omega)]
  rw [copied_is l hlen]
  simp only [Option.bind_some]
  rw [hmark]
  simp only [Option.bind_some]
  rw [if_pos (by rw [hal.len]), missed_is hwm hsm hlm h0m ha hfm u g hu (by omega)]
  simp only [Option.bind_some]
  generalize hM : aging_Mark.markAll l (missL l R t g n) = M at *
  have hra := missL_len M R u g n
  have hml := hal.len
  refine loops l M t u g (missL l R t g n) (missL M R u g n) a R (by omega) (by omega) ?_ (some true) 2000 ?_ (missL M R u g n).length 0 k (by omega) (by omega)
  · intro x hx y hy hxy
    subst hxy
    unfold missL at hx
    split at hx
    · simp at hx
    · obtain ⟨j, rfl, h1, h2, h3⟩ := miss_mem M u g _ _ x hx
      have hj : j < l.length := by
        rcases hf with h | h
        · rename_i hc; exact absurd h hc
        · have := h.1; omega
      rw [hat j hj] at h3
      simp [hy] at h3
  · intro k2 hk2
    simp only [arrearslaw10_AgingMarksOnce.l0]
    rw [if_neg (by omega), missed_is hwm hsm hlm h0m ha hfm t g ht (by omega)]
    simp only [Option.bind_some]
    have hnil : missL M R t g n = [] := by
      unfold missL
      split
      · rfl
      · rename_i hc
        have hn : n < l.length := by
          rcases hf with h | h
          · exact absurd h hc
          · exact h.1
        apply miss_none
        intro j h1 h2 hq
        have hj : j < l.length := by omega
        rw [hat j hj]
        by_cases m : (rr l (j : Int)).f3 = true
        · simp [m]
        · have hin : (j : Int) ∈ missL l R t g n := by
            unfold missL
            rw [if_neg hc]
            exact miss_all l t g _ n j h1 (by omega) (fun q h3 h4 => by have := hq q h3 h4; rwa [hal.late (by omega) t] at this) (by simpa using m)
          simp [hin]
    rw [hnil, if_pos (by simp), copied_is l hlen]
    simp only [Option.bind_some]
    have hd : aging_Days.f k2 M a R u = aging_Days.f k2 l a R u := by
      by_cases c : R ≤ 0
      · rw [days_done hwm hsm hlm c u, days_done hw hs hlen c u]
      · rcases hf with h | h
        · exact absurd h c
        · rw [days_is hwm hsm hlm h0m ha (k := k2) (by omega) c (hal.fr h) u hu, days_is hw hs hlen h0 ha (k := k2) (by omega) c h u hu, hal.late h.1 u]
    rw [hd]
    have he : ∃ q, aging_Days.f k2 l a R u = some q := by
      by_cases c : R ≤ 0
      · exact ⟨_, days_done hw hs hlen c u⟩
      · rcases hf with h | h
        · exact absurd h c
        · exact ⟨_, days_is hw hs hlen h0 ha (k := k2) (by omega) c h u hu⟩
    obtain ⟨q, hq⟩ := he
    rw [hq]
    simp
def AgingMarksOnce_Pure : Prop := ∀ (B0 B1 : Nat) (l0 : List (S31)) (x1 : S24) (a2 : Int) (a3 : Int) (a4 : Int), ((∀ x_ ∈ l0, WF31 B0 x_) ∧ l0.length * 32 ≤ 140737488351232 ∧ l0.length ≤ B0) → (WF24 B1 x1) → ((Lit.int .i64 a2).wf = true) → ((Lit.int .i64 a3).wf = true) → ((Lit.int .i64 a4).wf = true) → ∃ k, arrearslaw10_AgingMarksOnce.f k l0 x1.f0 x1.f1 a2 a3 a4 = some true
theorem AgingMarksOnce_pure : AgingMarksOnce_Pure := by
  intro B0 B1 l p t u g hl hp ht hu hg
  refine ⟨300002, ?_⟩
  have hw : rowsOk l := hl.1
  obtain ⟨b, hb1, hi⟩ := lsound_is l hw 300002 (by omega)
  have hA := wf64 hp.1
  have htt := wf64 ht
  have huu := wf64 hu
  obtain ⟨A, R⟩ := p
  dsimp only at hA ⊢
  unfold arrearslaw10_AgingMarksOnce.f
  rw [hb1]
  simp only [Option.bind_some]
  cases b with
  | false => rw [if_neg (by simp)]
  | true =>
    obtain ⟨hs, h0, hlen⟩ := hi rfl
    rw [if_pos rfl, copied_is l hlen]
    simp only [Option.bind_some]
    by_cases c : R ≤ 0
    · rw [missed_is hw hs hlen h0 hA.2 (n := 0) (.inl c) t g htt.2 (by omega)]
      simp only [Option.bind_some]
      rw [oldest_done hw hs hlen c]
      simp only [Option.bind_some]
      rw [if_neg (by simp)]
      exact once_main l hw hs h0 hlen A R t u g hA.2 htt.2 huu.2 0 (.inl c) 300001 (by omega)
    · obtain ⟨n, hS, hO, hf⟩ := satisfied_is hw hs hlen h0 (a := A) (R := R) (k := 300002) hA.2 (by omega) c
      have hn := hf.1
      have main := once_main l hw hs h0 hlen A R t u g hA.2 htt.2 huu.2 n (.inr hf) 300001 (by omega)
      rw [missed_is hw hs hlen h0 hA.2 (n := n) (.inr hf) t g htt.2 (by omega)]
      simp only [Option.bind_some]
      rw [hO]
      simp only [Option.bind_some]
      rw [if_pos trivial, if_pos (by omega), if_pos (by omega), if_pos (by omega)]
      show (if ((rr l (n : Int)).f3 = true) then _ else _) = _
      by_cases m : (rr l (n : Int)).f3 = true
      · rw [if_pos m]; exact main
      · rw [if_neg m]
        by_cases g0 : g ≥ 0
        · rw [if_pos g0, days_is hw hs hlen h0 hA.2 (k := 300002) (by omega) c hf t htt.2]
          simp only [Option.bind_some]
          by_cases d : lateD l n t > g
          · rw [if_pos d]
            have hin : (n : Int) ∈ missL l R t g n := by
              unfold missL
              rw [if_neg c]
              refine miss_all l t g _ n n (Nat.le_refl _) (by omega) (fun q h1 h2 => ?_) (by simpa using m)
              have : q = n := by omega
              subst this
              unfold mx; split <;> omega
            have hne : ((((missL l R t g n).length : Int)) == 0) = false := by
              have := List.length_pos_of_mem hin
              rw [beq_eq_false_iff_ne]; omega
            rw [hne]; exact main
          · rw [if_neg d]; exact main
        · rw [if_neg g0]; exact main
end Go.Proofs.Ytncfoaglmggdhaa.M
