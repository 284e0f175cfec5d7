/- UpTo's state: two pairs of disks side by side and the answers that are kept, each block with its owner. No condition. -/
import Derived.Test.YticokogggepfoaaMC
namespace Go.Proofs.Yticokogggepfoaa.D
open Go.RowKit Go.Proofs.YticokogggepfoaaW.PrintWords Go.Proofs.YticokogggepfoaaW.PrintLast Go.Proofs.YticokogggepfoaaW.PrintMore Go.Proofs.Yticokogggepfoaa.G
set_option linter.unusedVariables false
set_option linter.unusedSimpArgs false
set_option maxRecDepth 100000
def oi (i : Bool) : Nat := if i then 3 else 1
def zi (i : Bool) : Nat := if i then 4 else 2
theorem oi_pos (i : Bool) : oi i = 1 ∨ oi i = 3 := by cases i <;> simp [oi]
theorem zi_pos (i : Bool) : zi i = 2 ∨ zi i = 4 := by cases i <;> simp [zi]
theorem oi_ne {i j : Bool} (h : j ≠ i) : oi j ≠ oi i := by cases i <;> cases j <;> simp [oi] at h ⊢
def sel {α : Type} (f : Bool → α) (i : Bool) (x : α) : Bool → α := fun j => if j = i then x else f j
theorem sel_eq {α : Type} (f : Bool → α) (i : Bool) (x : α) : sel f i x i = x := by simp [sel]
theorem sel_ne {α : Type} (f : Bool → α) {i j : Bool} (x : α) (h : j ≠ i) : sel f i x j = f j := by simp [sel, h]
/-- Two pairs and the kept answers; own tells each block's owner: 1 and 3 the disks, 2 and 4 the document's, 5 the row of answers, 6 the answers, more: boxes. -/
structure US (W w : World) (own : Nat → Nat) (g : Bool → Nat) (p : Bool → PM) (s : Bool → RS) (m : Bool → RM) (v : Value) (xs : List (Nat × Int)) : Prop where
  rep : ∀ i, Rep w W.heap.size (fun k => own k = oi i) (g i) (p i)
  rr : ∀ i, RRep w (fun k => own k = zi i) (s i) (m i)
  rel : ∀ i, Rel (p i) (m i)
  mok : ∀ i, (m i).ok
  ha : HA w W.heap.size (fun k => own k = 5) (fun k => own k = 6) v xs
  lt : ∀ k, own k ≠ 0 → W.heap.size ≤ k ∧ k < w.heap.size
  below : Below W.heap.size W w
section
variable {W w w' : World} {own : Nat → Nat} {g : Bool → Nat} {p : Bool → PM} {s : Bool → RS} {m : Bool → RM} {v : Value} {xs : List (Nat × Int)} {mo : OM} {A : Option Addr} {c : Nat}
theorem US.next (h : US W w own g p s m v xs) (hb : Below w.heap.size w w') : US W w' own g p s m v xs :=
  ⟨fun i => (h.rep i).later hb, fun i => (h.rr i).below hb, h.rel, h.mok, h.ha.upd (Upd.of_below hb (fun _ => False)) (fun _ _ h_ => h_) (fun _ _ h_ => h_), fun k hk => ⟨(h.lt k hk).1, Nat.lt_of_lt_of_le (h.lt k hk).2 hb.size⟩, h.below.trans (hb.mono h.below.size)⟩
/-- A change of blocks that belong to neither. -/
theorem US.upd (h : US W w own g p s m v xs) {S : Nat → Prop} (hu : Upd w w' S) (hS : ∀ k, S k → (own k = 0 ∨ 7 ≤ own k) ∧ W.heap.size ≤ k) : US W w' own g p s m v xs :=
  ⟨fun i => (h.rep i).upd hu (fun k hk _ h_ => by have := (hS k h_).1; have := oi_pos i; omega), fun i => (h.rr i).upd hu (fun k hk _ h_ => by have := (hS k h_).1; have := zi_pos i; omega), h.rel, h.mok,
   h.ha.upd hu (fun k hk h_ => by have := (hS k h_).1; omega) (fun k hk h_ => by have := (hS k h_).1; omega), fun k hk => ⟨(h.lt k hk).1, Nat.lt_of_lt_of_le (h.lt k hk).2 hu.size⟩, hu.below h.below (fun k hk => (hS k hk).2) h.below.size⟩
theorem US.step (h : US W w own g p s m v xs) (i : Bool) {z' : Nat → Prop} {p' : PM} {s' : RS} {m' : RM} (hr : Rep w' W.heap.size (fun k => own k = oi i ∨ w.heap.size ≤ k ∧ ¬ z' k) (g i) p') (hm : RRep w' z' s' m') (hz : ∀ k, z' k → ¬ own k = oi i ∧ k < w'.heap.size) (hu : Upd w w' (fun k => own k = oi i)) (hi : ∀ k, z' k → own k = zi i ∨ w.heap.size ≤ k)
    (hR : Rel p' m') (hM : m'.ok) : ∃ own', US W w' own' g (sel p i p') (sel s i s') (sel m i m') v xs ∧ ∀ k, k < w.heap.size → own' k = own k := by
  classical
  refine ⟨fun k => if k < w.heap.size then own k else if k < w'.heap.size then (if z' k then zi i else oi i) else 0, ⟨fun j => ?_, fun j => ?_, fun j => ?_, fun j => ?_, ?_, fun k hk => ?_, ?_⟩, fun k hk => if_pos hk⟩
  · by_cases hj : j = i
    · subst hj
      rw [sel_eq]
      refine hr.bound.mono (fun k hk => ?_)
      rcases hk.1 with h_ | h_
      · have := h.lt k (by have := oi_pos j; omega)
        rw [if_pos this.2]; exact h_
      · rw [if_neg (by omega), if_pos hk.2.2, if_neg h_.2]
    · rw [sel_ne _ _ hj]
      refine ((h.rep j).upd hu (fun k hk _ h_ => oi_ne hj (hk.symm.trans h_))).mono (fun k hk => ?_)
      have := h.lt k (by have := oi_pos j; omega)
      rw [if_pos this.2]; exact hk
  · by_cases hj : j = i
    · subst hj
      rw [sel_eq, sel_eq]
      refine hm.mono (fun k hk => ?_)
      rcases hi k hk with h_ | h_
      · have := h.lt k (by have := zi_pos j; omega)
        rw [if_pos this.2]; exact h_
      · rw [if_neg (by omega), if_pos (hz k hk).2, if_pos hk]
    · rw [sel_ne _ _ hj, sel_ne _ _ hj]
      refine ((h.rr j).upd hu (fun k hk _ h_ => by have := oi_pos i; have := zi_pos j; omega)).mono (fun k hk => ?_)
      have := h.lt k (by have := zi_pos j; omega)
      rw [if_pos this.2]; exact hk
  · by_cases hj : j = i
    · subst hj; rw [sel_eq, sel_eq]; exact hR
    · rw [sel_ne _ _ hj, sel_ne _ _ hj]; exact h.rel j
  · by_cases hj : j = i
    · subst hj; rw [sel_eq]; exact hM
    · rw [sel_ne _ _ hj]; exact h.mok j
  · refine (h.ha.upd hu (fun k hk h_ => by have := oi_pos i; omega) (fun k hk h_ => by have := oi_pos i; omega)).mono (fun k hk => ?_) (fun k hk => ?_)
    · rw [if_pos (h.lt k (by omega)).2]; exact hk
    · rw [if_pos (h.lt k (by omega)).2]; exact hk
  · by_cases h1 : k < w.heap.size
    · rw [if_pos h1] at hk
      exact ⟨(h.lt k hk).1, Nat.lt_of_lt_of_le h1 hu.size⟩
    · rw [if_neg h1] at hk
      by_cases h2 : k < w'.heap.size
      · exact ⟨Nat.le_trans h.below.size (by omega), h2⟩
      · rw [if_neg h2] at hk; exact absurd rfl hk
  · exact hu.below h.below (fun k hk => (h.lt k (by have := oi_pos i; omega)).1) h.below.size
theorem US.dpost (h : US W w own g p s m v xs) (i : Bool) {e : Ending} {p' : PM} {m' : RM} (hd : DPost w W.heap.size (fun k => own k = oi i) (fun k => own k = zi i) (g i) p' m' e w') (hs : Rel p' m' ∧ m'.ok) :
    ∃ own' s', e = .returned (.tuple #[.agg (PV (g i) s' m'), .bool true]) ∧ US W w' own' g (sel p i p') (sel s i s') (sel m i m') v xs ∧ (∀ k, k < w.heap.size → own' k = own k) ∧ Upd w w' (fun k => own k = oi i) := by
  obtain ⟨s', z', rfl, h1, h2, h3, h4, h5⟩ := hd
  obtain ⟨own', h6, h7⟩ := h.step i h1 h2 h3 h4 h5 hs.1 hs.2
  exact ⟨own', s', rfl, h6, h7, h4⟩
/-- A step on a pair, of whichever kind but a look. -/
theorem US.write_ (h : US W w own g p s m v xs) (i : Bool) (hC : Kd.C By W A mo.data.length mo.data) (hcc : mo.data.length ≤ c) (hl : mo.data.length < 140737488355000) (hk : 1 ≤ mo.kd ∧ mo.kd ≤ 4) :
    Calls Try.prog 40 #[.agg (PV (g i) (s i) (m i)), .agg (OV mo A c)] w fun e w' => ∃ own' p' s' m', e = .returned (.tuple #[.agg (PV (g i) s' m'), .bool true]) ∧ US W w' own' g (sel p i p') (sel s i s') (sel m i m') v xs ∧ (∀ k, k < w.heap.size → own' k = own k) ∧ Upd w w' (fun k => own k = oi i) := by
  refine (lw_write (h.rep i) h.below.size (h.rr i) (fun k hk => ⟨fun h_ => by have := oi_pos i; have := zi_pos i; omega, (h.lt k (by have := zi_pos i; omega)).2⟩) (fun k hk => (h.lt k (by have := oi_pos i; omega)).2) (h.rel i) (h.mok i)
    (fun w' hu => Kd.C_below hC (hu.below h.below (fun k hk => (h.lt k (by have := oi_pos i; omega)).1) h.below.size)) hcc hl hk).mono fun e w' hd => ?_
  have hs := refd_same (h.rel i) (h.mok i) mo
  obtain ⟨own', s', h1, h2, h3, h4⟩ := h.dpost i hd ⟨hs.1, hs.2.2⟩
  exact ⟨own', _, s', _, h1, h2, h3, h4⟩
theorem US.order_ (h : US W w own g p s m v xs) (i : Bool) (hk : ¬ (1 ≤ mo.kd ∧ mo.kd ≤ 4)) :
    Calls Try.prog 41 #[.agg (PV (g i) (s i) (m i)), .agg (OV mo A c)] w fun e w' => ∃ own' p' s' m', e = .returned (.tuple #[.agg (PV (g i) s' m'), .bool true]) ∧ US W w' own' g (sel p i p') (sel s i s') (sel m i m') v xs ∧ (∀ k, k < w.heap.size → own' k = own k) ∧ Upd w w' (fun k => own k = oi i) := by
  refine (lw_order (h.rep i) h.below.size (h.rr i) (fun k hk => ⟨fun h_ => by have := oi_pos i; have := zi_pos i; omega, (h.lt k (by have := zi_pos i; omega)).2⟩) (fun k hk => (h.lt k (by have := oi_pos i; omega)).2) (h.rel i) (h.mok i) hk).mono fun e w' hd => ?_
  have hs := refd_same (h.rel i) (h.mok i) mo
  obtain ⟨own', s', h1, h2, h3, h4⟩ := h.dpost i hd ⟨hs.1, hs.2.2⟩
  exact ⟨own', _, s', _, h1, h2, h3, h4⟩
theorem US.look_ (h : US W w own g p s m v xs) (i : Bool) (hx : xs.length ≤ 2400000000000) :
    Calls Try.prog 39 #[.agg (PV (g i) (s i) (m i)), .agg (OV mo A c), v] w fun e w' => ∃ own' A' c' xs', e = .returned (.tuple #[.slice A' xs'.length c', .bool true]) ∧ US W w' own' g p s m (.slice A' xs'.length c') xs' ∧ (∀ k, k < w.heap.size → own' k = own k) ∧ Upd w w' (fun k => own k = 5) ∧ xs'.length ≤ xs.length + 1 := by
  classical
  refine (look_calls (h.rep i) (h.rr i) (h.rel i) (h.mok i) h.ha (fun k h1 h2 => by omega) (fun k hk => (h.lt k (by omega)).2) (fun k hk => (h.lt k (by omega)).2) h.below.size hx).mono fun e w' hd => ?_
  obtain ⟨v', xs', oA', z', rfl, h1, h2, h3, h4, h5, h6, h7, h8⟩ := hd
  obtain ⟨A', c', rfl, _, _⟩ := h1.slice
  refine ⟨fun k => if k < w.heap.size then own k else if k < w'.heap.size then (if oA' k then 5 else if z' k then 6 else 0) else 0, A', c', xs', rfl, ⟨fun j => ?_, fun j => ?_, h.rel, h.mok, ?_, fun k hk => ?_, ?_⟩, fun k hk => if_pos hk, h2, h8⟩
  · refine ((h.rep j).upd h2 (fun k hk _ h_ => by have := oi_pos j; omega)).mono (fun k hk => ?_)
    have := h.lt k (by have := oi_pos j; omega)
    rw [if_pos this.2]; exact hk
  · refine ((h.rr j).upd h2 (fun k hk _ h_ => by have := zi_pos j; omega)).mono (fun k hk => ?_)
    have := h.lt k (by have := zi_pos j; omega)
    rw [if_pos this.2]; exact hk
  · refine h1.mono (fun k hk => ?_) (fun k hk => ?_)
    · rcases h3 k hk with h_ | h_
      · rw [if_pos (h.lt k (by omega)).2]; exact h_
      · rw [if_neg (by omega), if_pos (h6 k hk), if_pos hk]
    · rcases h4 k hk with h_ | h_
      · rw [if_pos (h.lt k (by omega)).2]; exact h_
      · rw [if_neg (by omega), if_pos (h7 k hk), if_neg (fun h_ => h5 k h_ hk), if_pos hk]
  · by_cases h1 : k < w.heap.size
    · rw [if_pos h1] at hk
      exact ⟨(h.lt k hk).1, Nat.lt_of_lt_of_le h1 h2.size⟩
    · rw [if_neg h1] at hk
      by_cases h2 : k < w'.heap.size
      · exact ⟨Nat.le_trans h.below.size (by omega), h2⟩
      · rw [if_neg h2] at hk; exact absurd rfl hk
  · exact h2.below h.below (fun k hk => (h.lt k (by omega)).1) h.below.size
end
/-- The same with the pairs' boxes. -/
structure UB (W w : World) (b : Bool → Nat) (own : Nat → Nat) (g : Bool → Nat) (p : Bool → PM) (s : Bool → RS) (m : Bool → RM) (v : Value) (xs : List (Nat × Int)) : Prop where
  us : US W w own g p s m v xs
  x : ∀ i, w.heap[b i]? = some (.cells (PV (g i) (s i) (m i)) 71 (0, 0))
  o : ∀ i, own (b i) = if i then 8 else 7
section
variable {W w w' : World} {b : Bool → Nat} {own own' : Nat → Nat} {g : Bool → Nat} {p p' : Bool → PM} {s s' : Bool → RS} {m m' : Bool → RM} {v v' : Value} {xs xs' : List (Nat × Int)}
theorem UB.o7 (h : UB W w b own g p s m v xs) (i : Bool) : 7 ≤ own (b i) := by rw [h.o]; cases i <;> simp
theorem UB.ne (h : UB W w b own g p s m v xs) {i j : Bool} (hj : j ≠ i) : b j ≠ b i := fun he => by
  have h1 := h.o i
  have h2 := h.o j
  rw [he, h1] at h2
  cases i <;> cases j <;> simp at h2 hj
theorem UB.next (h : UB W w b own g p s m v xs) (hb : Below w.heap.size w w') : UB W w' b own g p s m v xs :=
  ⟨h.us.next hb, fun i => blk_below (h.x i) hb, h.o⟩
/-- A byte of the law's own is written. -/
theorem UB.mark (h : UB W w b own g p s m v xs) {k j : Nat} (hk : own k = 0) (hB : W.heap.size ≤ k) (u : Value) : UB W (w.setCell ⟨k, j, none⟩ u) b own g p s m v xs := by
  have hU : Upd w (w.setCell ⟨k, j, none⟩ u) (fun q => q = k) := Upd.setCell (S := fun q => q = k) (Upd.refl w _) (p := ⟨k, j, none⟩) (fun _ => rfl) u
  exact ⟨h.us.upd hU (fun q hq => by subst hq; exact ⟨.inl hk, hB⟩), fun i => (hU.block _ (blk_lt (h.x i)) (fun he => by have := h.o7 i; rw [he, hk] at this; omega)).trans (h.x i), h.o⟩
/-- A box of the law's own is written whole. -/
theorem UB.box (h : UB W w b own g p s m v xs) {k : Nat} (hk : own k = 0) (hB : W.heap.size ≤ k) {v0 v1 v2 v3 v4 v5 v6 v7 v8 : Value} : UB W (((((((((w.setCell ⟨k, 0, none⟩ v0).setCell ⟨k, 1, none⟩ v1).setCell ⟨k, 2, none⟩ v2).setCell ⟨k, 3, none⟩ v3).setCell ⟨k, 4, none⟩ v4).setCell ⟨k, 5, none⟩ v5).setCell ⟨k, 6, none⟩ v6).setCell ⟨k, 7, none⟩ v7).setCell ⟨k, 8, none⟩ v8) b own g p s m v xs :=
  ((((((((h.mark hk hB _).mark hk hB _).mark hk hB _).mark hk hB _).mark hk hB _).mark hk hB _).mark hk hB _).mark hk hB _).mark hk hB _
/-- What a step leaves, ahead of the pair's box. -/
theorem UB.left (h : UB W w b own g p s m v xs) (hu : US W w' own' g p' s' m' v' xs') (ho : ∀ k, k < w.heap.size → own' k = own k) {n : Nat} (hn : n < 7) (hU : Upd w w' (fun k => own k = n)) : (∀ i, w'.heap[b i]? = some (.cells (PV (g i) (s i) (m i)) 71 (0, 0))) ∧ (∀ i, own' (b i) = if i then 8 else 7) :=
  ⟨fun i => (hU.block _ (blk_lt (h.x i)) (fun he => by have := h.o7 i; omega)).trans (h.x i), fun i => (ho _ (blk_lt (h.x i))).trans (h.o i)⟩
/-- The pair's box is written. -/
theorem UB.put {i : Bool} {p1 : PM} {s1 : RS} {m1 : RM} (hu : US W w own g (sel p i p1) (sel s i s1) (sel m i m1) v xs) (hx : ∀ i, w.heap[b i]? = some (.cells (PV (g i) (s i) (m i)) 71 (0, 0))) (ho : ∀ i, own (b i) = if i then 8 else 7) (hU : Upd w w' (fun k => k = b i)) (hp : w'.heap[b i]? = some (.cells (PV (g i) s1 m1) 71 (0, 0))) :
    UB W w' b own g (sel p i p1) (sel s i s1) (sel m i m1) v xs := by
  refine ⟨hu.upd hU (fun k hk => ?_), fun j => ?_, ho⟩
  · subst hk
    have := ho i
    have h7 : 7 ≤ own (b i) := by rw [this]; cases i <;> simp
    exact ⟨.inr h7, (hu.lt (b i) (by omega)).1⟩
  · by_cases hj : j = i
    · subst hj; rw [sel_eq, sel_eq]; exact hp
    · rw [sel_ne _ _ hj, sel_ne _ _ hj]
      refine (hU.block _ (blk_lt (hx j)) (fun he => ?_)).trans (hx j)
      have h1 := ho i
      have h2 := ho j
      rw [he, h1] at h2
      cases i <;> cases j <;> simp at h2 hj
end
theorem C_nil_ (w : World) : Kd.C By w none ([] : List Int).length [] := Kd.C_nil _ _
theorem Wb.low {B B' : Nat} {w : World} {o : Nat → Prop} {v : Value} {n : Nat} (h : Wb B w o v n) (hB : B' ≤ B) : Wb B' w o v n := by
  obtain ⟨A, c, rfl, h1, h2⟩ := h
  refine ⟨A, c, rfl, h1, fun hn => ?_⟩
  obtain ⟨b, f, cells, e, h3, h4, h5, h6⟩ := h2 hn
  exact ⟨b, f, cells, e, h3, Nat.le_trans hB h4, h5, h6⟩
def two {α : Type} (a b : α) : Bool → α := fun i => if i then b else a
/-- The state behind the two pairs' making. -/
theorem us_start {W w2 w3 w4 w5 w6 w7 w8 : World} {s1 s2 : RS} {l0 l1 : List Int} (h2 : Below W.heap.size W w2)
    (r3 : Rep w3 w2.heap.size (fun k => w2.heap.size ≤ k) w2.heap.size (PM.load l0 l1 2)) (b3 : Below w2.heap.size w2 w3) (r4 : RRep w4 (fun k => w3.heap.size ≤ k) s1 (RM.load l0 l1)) (b4 : Below w3.heap.size w3 w4)
    (b5 : Below w4.heap.size w4 w5) (z5 : w5.heap.size = w4.heap.size + 1) (r6 : Rep w6 W.heap.size (fun k => k = w5.heap.size) w5.heap.size ⟨[], 0, [], 0, [], false, 0⟩) (b6 : Below w5.heap.size w5 w6)
    (r7 : RRep w7 (fun k => w6.heap.size ≤ k) s2 (RM.load [] [])) (b7 : Below w6.heap.size w6 w7) (b8 : Below w7.heap.size w7 w8) (z8 : w8.heap.size = w7.heap.size + 1) :
    ∃ own, US W w8 own (two w2.heap.size w5.heap.size) (two (PM.load l0 l1 2) ⟨[], 0, [], 0, [], false, 0⟩) (two s1 s2) (two (RM.load l0 l1) (RM.load [] [])) (.slice none 0 0) [] ∧ own w4.heap.size = 7 ∧ own w7.heap.size = 8 ∧ ∀ k, k < w2.heap.size → own k = 0 := by
  have q2 := h2.size
  have q3 := b3.size
  have q4 := b4.size
  have q6 := b6.size
  have q7 := b7.size
  have c45 : Below w4.heap.size w4 w8 := b5.trans ((b6.mono (by omega)).trans ((b7.mono (by omega)).trans (b8.mono (by omega))))
  have c34 : Below w3.heap.size w3 w8 := b4.trans (c45.mono (by omega))
  have c67 : Below w6.heap.size w6 w8 := b7.trans (b8.mono (by omega))
  refine ⟨fun k => if k < w2.heap.size then 0 else if k < w3.heap.size then 1 else if k < w4.heap.size then 2 else if k = w4.heap.size then 7 else if k < w6.heap.size then 3 else if k < w7.heap.size then 4 else if k = w7.heap.size then 8 else 0, ⟨fun i => ?_, fun i => ?_, fun i => ?_, fun i => ?_, HA.nil _ _ _ _, fun k hk => ?_, ?_⟩, ?_, ?_, fun k hk => if_pos hk⟩
  · cases i with
    | false =>
      refine ((r3.lower q2).bound.later c34).mono (fun k hk => ?_)
      rw [if_neg (by omega), if_pos hk.2.2]; rfl
    | true =>
      refine (r6.bound.later c67).mono (fun k hk => ?_)
      have := hk.1
      rw [if_neg (by omega), if_neg (by omega), if_neg (by omega), if_neg (by omega), if_pos hk.2.2]; rfl
  · cases i with
    | false =>
      refine (r4.bound.below c45).mono (fun k hk => ?_)
      rw [if_neg (by omega), if_neg (by omega), if_pos hk.2]; rfl
    | true =>
      refine (r7.bound.below b8).mono (fun k hk => ?_)
      rw [if_neg (by omega), if_neg (by omega), if_neg (by omega), if_neg (by omega), if_neg (by omega), if_pos hk.2]; rfl
  · cases i with
    | false => exact (load_rel l0 l1).1
    | true => exact new_rel
  · cases i with
    | false => exact (load_rel l0 l1).2
    | true => exact (load_rel [] []).2
  · by_cases e1 : k < w2.heap.size
    · rw [if_pos e1] at hk; exact absurd rfl hk
    · refine ⟨by omega, ?_⟩
      by_cases e2 : k < w8.heap.size
      · exact e2
      · rw [if_neg e1, if_neg (by omega), if_neg (by omega), if_neg (by omega), if_neg (by omega), if_neg (by omega), if_neg (by omega)] at hk
        exact absurd rfl hk
  · exact h2.trans ((b3.trans (c34.mono q3)).mono q2)
  · dsimp only
    rw [if_neg (by omega), if_neg (by omega), if_neg (by omega), if_pos rfl]
  · dsimp only
    rw [if_neg (by omega), if_neg (by omega), if_neg (by omega), if_neg (by omega), if_neg (by omega), if_neg (by omega), if_pos rfl]
/-! ### The box stored whole -/
theorem pv_put9 {w : World} {b g : Nat} {s : RS} {m : RM} {v0 v1 v2 v3 v4 v5 v6 v7 v8 : Value} (h : w.heap[b]? = some (.cells (PV g s m) 71 (0, 0))) : (((((((((w.setCell ⟨b, 0, none⟩ (v0)).setCell ⟨b, 1, none⟩ (v1)).setCell ⟨b, 2, none⟩ (v2)).setCell ⟨b, 3, none⟩ (v3)).setCell ⟨b, 4, none⟩ (v4)).setCell ⟨b, 5, none⟩ (v5)).setCell ⟨b, 6, none⟩ (v6)).setCell ⟨b, 7, none⟩ (v7)).setCell ⟨b, 8, none⟩ (v8)).heap[b]? = some (.cells #[v0, v1, v2, v3, v4, v5, v6, v7, v8] 71 (0, 0)) := by
  have h1 := blk_put (cs' := #[v0, .slice s.D0 m.d0.length s.D0c, .slice s.D1 m.d1.length s.D1c, .slice s.P0 m.p0.length s.P0c, .slice s.P1 m.p1.length s.P1c, .slice s.Ar m.ar.length s.Arc, .int .i64 m.cnt, .bool m.dn, .int .i64 m.wr]) h 0 (v0) rfl
  have h2 := blk_put (cs' := #[v0, v1, .slice s.D1 m.d1.length s.D1c, .slice s.P0 m.p0.length s.P0c, .slice s.P1 m.p1.length s.P1c, .slice s.Ar m.ar.length s.Arc, .int .i64 m.cnt, .bool m.dn, .int .i64 m.wr]) h1 1 (v1) rfl
  have h3 := blk_put (cs' := #[v0, v1, v2, .slice s.P0 m.p0.length s.P0c, .slice s.P1 m.p1.length s.P1c, .slice s.Ar m.ar.length s.Arc, .int .i64 m.cnt, .bool m.dn, .int .i64 m.wr]) h2 2 (v2) rfl
  have h4 := blk_put (cs' := #[v0, v1, v2, v3, .slice s.P1 m.p1.length s.P1c, .slice s.Ar m.ar.length s.Arc, .int .i64 m.cnt, .bool m.dn, .int .i64 m.wr]) h3 3 (v3) rfl
  have h5 := blk_put (cs' := #[v0, v1, v2, v3, v4, .slice s.Ar m.ar.length s.Arc, .int .i64 m.cnt, .bool m.dn, .int .i64 m.wr]) h4 4 (v4) rfl
  have h6 := blk_put (cs' := #[v0, v1, v2, v3, v4, v5, .int .i64 m.cnt, .bool m.dn, .int .i64 m.wr]) h5 5 (v5) rfl
  have h7 := blk_put (cs' := #[v0, v1, v2, v3, v4, v5, v6, .bool m.dn, .int .i64 m.wr]) h6 6 (v6) rfl
  have h8 := blk_put (cs' := #[v0, v1, v2, v3, v4, v5, v6, v7, .int .i64 m.wr]) h7 7 (v7) rfl
  have h9 := blk_put (cs' := #[v0, v1, v2, v3, v4, v5, v6, v7, v8]) h8 8 (v8) rfl
  exact h9
theorem sel_self {α : Type} (f : Bool → α) (i : Bool) : sel f i (f i) = f := by funext j; unfold sel; split <;> simp_all
/-- A round behind its step: the boxes of the step, the pairs' boxes as they were. -/
structure UT (W w : World) (b : Bool → Nat) (n : Nat) (i : Bool) (g : Bool → Nat) (p : Bool → PM) (s : Bool → RS) (m : Bool → RM) (mo : OM) (A : Option Addr) (c : Nat) (own : Nat → Nat) (p1 : PM) (s1 : RS) (m1 : RM) (v : Value) (xs : List (Nat × Int)) : Prop where
  us : US W w own g (sel p i p1) (sel s i s1) (sel m i m1) v xs
  x : ∀ j, w.heap[b j]? = some (.cells (PV (g j) (s j) (m j)) 71 (0, 0))
  o : ∀ j, own (b j) = if j then 8 else 7
  bo : w.heap[n]? = some (.cells (OV mo A c) 45 (0, 0))
  bt : w.heap[n + 1]? = some (.cells (PV (g i) s1 m1) 71 (0, 0))
section
variable {W w w' : World} {b : Bool → Nat} {n : Nat} {i : Bool} {own own' : Nat → Nat} {g : Bool → Nat} {p : Bool → PM} {s : Bool → RS} {m : Bool → RM} {mo : OM} {A : Option Addr} {c : Nat} {v v' : Value} {xs xs' : List (Nat × Int)} {p1 : PM} {s1 : RS} {m1 : RM}
/-- Behind a look. -/
theorem UT.looked (h : UB W w b own g p s m v xs) (bo : w.heap[n]? = some (.cells (OV mo A c) 45 (0, 0))) (bt : w.heap[n + 1]? = some (.cells (PV (g i) (s i) (m i)) 71 (0, 0))) (o0 : own n = 0) (o1 : own (n + 1) = 0)
    (hu : US W w' own' g p s m v' xs') (ho : ∀ k, k < w.heap.size → own' k = own k) (hU : Upd w w' (fun k => own k = 5)) : UT W w' b n i g p s m mo A c own' (p i) (s i) (m i) v' xs' := by
  obtain ⟨h1, h2⟩ := h.left hu ho (by decide) hU
  exact ⟨by rw [sel_self, sel_self, sel_self]; exact hu, h1, h2, (hU.block _ (blk_lt bo) (by omega)).trans bo, (hU.block _ (blk_lt bt) (by omega)).trans bt⟩
/-- Behind a step of another kind: its answer is stored. -/
theorem UT.stepped (h : UB W w b own g p s m v xs) (bo : w.heap[n]? = some (.cells (OV mo A c) 45 (0, 0))) (bt : w.heap[n + 1]? = some (.cells (PV (g i) (s i) (m i)) 71 (0, 0))) (o0 : own n = 0) (o1 : own (n + 1) = 0) (hB : W.heap.size ≤ n)
    (hu : US W w' own' g (sel p i p1) (sel s i s1) (sel m i m1) v' xs') (ho : ∀ k, k < w.heap.size → own' k = own k) (hU : Upd w w' (fun k => own k = oi i)) :
    UT W (((((((((w'.setCell ⟨n + 1, 0, none⟩ (.pointer (some ⟨g i, 0, none⟩))).setCell ⟨n + 1, 1, none⟩ (.slice s1.D0 m1.d0.length s1.D0c)).setCell ⟨n + 1, 2, none⟩ (.slice s1.D1 m1.d1.length s1.D1c)).setCell ⟨n + 1, 3, none⟩ (.slice s1.P0 m1.p0.length s1.P0c)).setCell ⟨n + 1, 4, none⟩ (.slice s1.P1 m1.p1.length s1.P1c)).setCell ⟨n + 1, 5, none⟩ (.slice s1.Ar m1.ar.length s1.Arc)).setCell ⟨n + 1, 6, none⟩ (.int .i64 m1.cnt)).setCell ⟨n + 1, 7, none⟩ (.bool m1.dn)).setCell ⟨n + 1, 8, none⟩ (.int .i64 m1.wr)) b n i g p s m mo A c own' p1 s1 m1 v' xs' := by
  have hoi := oi_pos i
  obtain ⟨h1, h2⟩ := h.left hu ho (n := oi i) (by omega) hU
  have b1 := (hU.block _ (blk_lt bo) (by omega)).trans bo
  have b2 := (hU.block _ (blk_lt bt) (by omega)).trans bt
  have e0 : own' n = 0 := (ho _ (blk_lt bo)).trans o0
  have e1 : own' (n + 1) = 0 := (ho _ (blk_lt bt)).trans o1
  have hP := put9_upd (w := w') (n + 1) (.pointer (some ⟨g i, 0, none⟩)) (.slice s1.D0 m1.d0.length s1.D0c) (.slice s1.D1 m1.d1.length s1.D1c) (.slice s1.P0 m1.p0.length s1.P0c) (.slice s1.P1 m1.p1.length s1.P1c) (.slice s1.Ar m1.ar.length s1.Arc) (.int .i64 m1.cnt) (.bool m1.dn) (.int .i64 m1.wr)
  refine ⟨hu.upd hP (fun k hk => by subst hk; exact ⟨.inl e1, by omega⟩), fun j => (hP.block _ (blk_lt (h1 j)) (fun he => ?_)).trans (h1 j), h2, (hP.block _ (blk_lt b1) (by omega)).trans b1, pv_put9 b2⟩
  have := h2 j
  rw [he, e1] at this
  cases j <;> simp at this
/-- The round's end: the step's pair goes back into its box. -/
theorem UT.stored (h : UT W w b n i g p s m mo A c own p1 s1 m1 v xs) : UB W (((((((((w.setCell ⟨b i, 0, none⟩ (.pointer (some ⟨g i, 0, none⟩))).setCell ⟨b i, 1, none⟩ (.slice s1.D0 m1.d0.length s1.D0c)).setCell ⟨b i, 2, none⟩ (.slice s1.D1 m1.d1.length s1.D1c)).setCell ⟨b i, 3, none⟩ (.slice s1.P0 m1.p0.length s1.P0c)).setCell ⟨b i, 4, none⟩ (.slice s1.P1 m1.p1.length s1.P1c)).setCell ⟨b i, 5, none⟩ (.slice s1.Ar m1.ar.length s1.Arc)).setCell ⟨b i, 6, none⟩ (.int .i64 m1.cnt)).setCell ⟨b i, 7, none⟩ (.bool m1.dn)).setCell ⟨b i, 8, none⟩ (.int .i64 m1.wr)) b own g (sel p i p1) (sel s i s1) (sel m i m1) v xs :=
  UB.put h.us h.x h.o (put9_upd (w := w) (b i) (.pointer (some ⟨g i, 0, none⟩)) (.slice s1.D0 m1.d0.length s1.D0c) (.slice s1.D1 m1.d1.length s1.D1c) (.slice s1.P0 m1.p0.length s1.P0c) (.slice s1.P1 m1.p1.length s1.P1c) (.slice s1.Ar m1.ar.length s1.Arc) (.int .i64 m1.cnt) (.bool m1.dn) (.int .i64 m1.wr)) (pv_put9 (h.x i))
end
end Go.Proofs.Yticokogggepfoaa.D
