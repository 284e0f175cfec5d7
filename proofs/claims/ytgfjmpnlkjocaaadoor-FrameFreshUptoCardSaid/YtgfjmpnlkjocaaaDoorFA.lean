/- Rows of a shelf: what a call leaves of memory, marks written into a row, a tail appended to it. No condition. -/
import Derived.Test.YtgfjmpnlkjocaaaDoorJx0
import Derived.ArgAppend
import Derived.LoopTactic
import Derived.RegionTactic
namespace Go.Proofs.YtgfjmpnlkjocaaaDoor.J
open Go.RowKit Go.Proofs.YtgfjmpnlkjocaaaDoorW.PrintWords Go.Proofs.YtgfjmpnlkjocaaaDoorW.PrintLast Go.Proofs.YtgfjmpnlkjocaaaDoorW.PrintMore
attribute [local go_sem] max2_int min2_int max_two min_two max_three min_three max_four min_four
set_option linter.unusedVariables false
set_option linter.unusedSimpArgs false
set_option maxRecDepth 100000
abbrev By := Kd.int .u8
structure Upd (W W' : World) (S : Nat → Prop) : Prop where
  os : W'.os = W.os
  tape : W'.tape = W.tape
  output : W'.output = W.output
  size : W.heap.size ≤ W'.heap.size
  block : ∀ i, i < W.heap.size → ¬ S i → W'.heap[i]? = W.heap[i]?
section
variable {W W1 W2 : World} {S S' S2 : Nat → Prop}
theorem Upd.refl (W : World) (S : Nat → Prop) : Upd W W S := ⟨rfl, rfl, rfl, Nat.le_refl _, fun _ _ _ => rfl⟩
theorem Upd.of_below (h : Below W.heap.size W W1) (S : Nat → Prop) : Upd W W1 S := ⟨h.os, h.tape, h.output, h.size, fun i hi _ => h.block i hi⟩
theorem Upd.mono (h : Upd W W1 S) (hs : ∀ k, k < W.heap.size → S k → S' k) : Upd W W1 S' := ⟨h.os, h.tape, h.output, h.size, fun i hi hn => h.block i hi (fun hk => hn (hs i hi hk))⟩
theorem Upd.then_ (h : Upd W W1 S) (k : Upd W1 W2 S2) (hs : ∀ k, k < W.heap.size → S2 k → S k) : Upd W W2 S :=
  ⟨k.os.trans h.os, k.tape.trans h.tape, k.output.trans h.output, Nat.le_trans h.size k.size, fun i hi hn => (k.block i (Nat.lt_of_lt_of_le hi h.size) (fun h2 => hn (hs i hi h2))).trans (h.block i hi hn)⟩
theorem Upd.grown {row : Option Nat} (h : Upd W W1 S) (hg : W1.grownBy W2 row) (hr : ∀ k, row = some k → k < W.heap.size → S k) : Upd W W2 S :=
  h.then_ (S2 := fun k => row = some k) ⟨hg.os, hg.tape, hg.output, hg.size, fun i hi hn => hg.block i hi (fun he => hn he.symm)⟩ (fun k hk h2 => hr k h2 hk)
theorem Upd.alloc (h : Upd W W1 S) (o : Obj) : Upd W (W1.alloc o) S := h.then_ (Upd.of_below (below_alloc (Below.refl _ _) o) (fun _ => False)) (fun _ _ hk => hk.elim)
theorem Upd.drew (h : Upd W W1 S) : Upd W W1.drew S := ⟨h.os, h.tape, h.output, h.size, h.block⟩
theorem Upd.drewN (h : Upd W W1 S) (n : Nat) : Upd W (W1.drewN n) S := ⟨h.os, h.tape, h.output, h.size, h.block⟩
theorem Upd.setCell (h : Upd W W1 S) {p : Addr} (hp : p.block < W.heap.size → S p.block) (u : Value) : Upd W (W1.setCell p u) S :=
  h.then_ (S2 := fun k => k = p.block) ⟨rfl, rfl, rfl, by simp [World.setCell], fun i _ hn => Below.heap_setCell W1 p u i hn⟩ (fun k hk h2 => by subst h2; exact hp hk)
theorem Upd.below (h : Upd W W1 S) {B : Nat} {w : World} (hb : Below B w W) (hS : ∀ k, S k → B ≤ k) (hB : B ≤ W.heap.size) : Below B w W1 :=
  hb.trans ⟨h.os, h.tape, h.output, h.size, fun k hk => h.block k (Nat.lt_of_lt_of_le hk hB) (fun hs => by have := hS k hs; omega)⟩
end
section
variable {α : Type} {d : Kd α} {W W' : World} {ok ok' S : Nat → Prop} {A : Option Addr} {n : Nat} {xs : List α}
theorem f_now (h : Kd.F d W ok A n xs) : Kd.C d W A n xs := h W (fun _ _ _ => rfl)
theorem f_upd (h : Kd.F d W ok A n xs) (hu : Upd W W' S) (hne : ∀ k, ok k → k < W.heap.size → ¬ S k) : Kd.F d W' ok A n xs := fun W2 h2 => h W2 (fun k hk hlt => (h2 k hk (Nat.lt_of_lt_of_le hlt hu.size)).trans (hu.block k hlt (hne k hk hlt)))
theorem f_below (h : Kd.F d W ok A n xs) (hb : Below W.heap.size W W') : Kd.F d W' ok A n xs := f_upd h (Upd.of_below hb (fun _ => False)) (fun _ _ _ hk => hk)
theorem f_mono (h : Kd.F d W ok A n xs) (hok : ∀ k, ok k → ok' k) : Kd.F d W ok' A n xs := fun W2 h2 => h W2 (fun k hk hlt => h2 k (hok k hk) hlt)
theorem f_bd (h : Kd.F d W ok A n xs) (hok : ∀ k, ok k → k < W.heap.size → ok' k) : Kd.F d W ok' A n xs := fun W2 h2 => h W2 (fun k hk hlt => h2 k (hok k hk hlt) hlt)
theorem f_nil (W : World) (ok : Nat → Prop) : Kd.F d W ok none 0 ([] : List α) := fun W2 _ => Kd.C_nil d W2
end
theorem rsl {α : Type} {d : Kd α} {e base : Nat} {w : World} {ok : Nat → Prop} {v : Value} {xs : List α} (h : d.R e w base ok v xs) : ∃ A c, v = .slice A xs.length c ∧ xs.length ≤ c := by
  obtain ⟨A, c, rfl, hc, _⟩ := Kd.R_reads h
  exact ⟨A, c, rfl, hc⟩
theorem below_drew1_ {W w : World} (h : Below W.drew.heap.size W.drew w) : Below W.heap.size W w := (below_drew1 (Below.refl _ W)).trans h
theorem bx (W : World) (o : Obj) : Below W.heap.size W (W.alloc o) := below_alloc (Below.refl _ _) _
/-- A row of bytes known whole: its block, its room, its first j bytes the mark. -/
def Mk (w : World) (v : Value) (n : Nat) (base : Nat) (o : Nat → Prop) (j : Nat) (mk : Int) : Prop :=
  (n = 0 ∧ v = .slice none 0 0) ∨ ∃ g cap cur, v = .slice (some ⟨g, 0, none⟩) n cap ∧ base ≤ g ∧ o g ∧ w.heap[g]? = some (.cells cur 5 (0, 0)) ∧ n ≤ cap ∧ cap ≤ 9223372036854775807 ∧ cur.size = cap ∧ ∀ i, i < j → i < n → cur[i]? = some (.int .u8 mk)
section
variable {w w' : World} {v : Value} {n base j : Nat} {o S : Nat → Prop} {mk : Int} {l : List Int}
theorem mk_row (h : Kd.R By 5 w base o v l) (mk : Int) : Mk w v l.length base o 0 mk := by
  have ho := Hand.own_of_R h
  rcases ho.2 with ⟨rfl, hn⟩ | ⟨g, cap, cur, rfl, hb, hh, h1, h2, h3, _⟩
  · exact .inl ⟨hn, rfl⟩
  · exact .inr ⟨g, cap, cur, rfl, hb, h.1 g rfl, hh, h1, by simpa [maxLen] using h2, by simpa using h3, fun i hi => by omega⟩
theorem Mk.upd (h : Mk w v n base o j mk) (hu : Upd w w' S) (hS : ∀ k, o k → ¬ S k) : Mk w' v n base o j mk := by
  rcases h with h | ⟨g, cap, cur, e, h1, h2, h3, h4⟩
  · exact .inl h
  · exact .inr ⟨g, cap, cur, e, h1, h2, (hu.block g (blk_lt h3) (hS g h2)).trans h3, h4⟩
theorem Mk.below (h : Mk w v n base o j mk) (hb : Below w.heap.size w w') : Mk w' v n base o j mk := h.upd (Upd.of_below hb (fun _ => False)) (fun _ _ h_ => h_)
/-- The next byte. -/
theorem mk_at {A : Option Addr} {c : Nat} (h : Mk w (.slice A n c) n base o j mk) (hj : j < n) : ∃ g u, A = some ⟨g, 0, none⟩ ∧ (⟨g, 0, none⟩ : Addr).add j = ⟨g, j, none⟩ ∧ o g ∧ base ≤ g ∧ w.cell? ⟨g, j, none⟩ = some u ∧ w.frozen? ⟨g, j, none⟩ = false ∧ (∃ cells, w.heap[g]? = some (.cells cells 5 (0, 0))) ∧ Mk (w.setCell ⟨g, j, none⟩ (.int .u8 mk)) (.slice A n c) n base o (j + 1) mk := by
  rcases h with ⟨h, _⟩ | ⟨g, cap, cur, e, h1, h2, h3, h4, h5, h6, h7⟩
  · omega
  · injection e with e1 e2 e3
    subst e1 e3
    have hlt : j < cur.size := by omega
    refine ⟨g, cur[j], rfl, add_plain g j, h2, h1, by rw [blk_cell h3]; simp [hlt], blk_frozen h3 _, ⟨_, h3⟩, .inr ⟨g, c, _, rfl, h1, h2, blk_set h3 j _, h4, h5, by rw [Array.size_setIfInBounds]; exact h6, fun i hi hin => ?_⟩⟩
    by_cases he : i = j
    · subst he; simp [hlt]
    · rw [Array.getElem?_setIfInBounds_ne (Ne.symm he)]; exact h7 i (by omega) hin
/-- All of it written: it reads as the mark. -/
theorem Mk.reads {A : Option Addr} {c : Nat} (h : Mk w (.slice A n c) n base o n mk) : Kd.F By w o A n (List.replicate n mk) ∧ n ≤ c := by
  rcases h with ⟨rfl, e⟩ | ⟨g, cap, cur, e, h1, h2, h3, h4, h5, h6, h7⟩
  · injection e with e1 e2 e3
    subst e1 e3
    exact ⟨f_nil _ _, Nat.le_refl _⟩
  · injection e with e1 e2 e3
    subst e1 e3
    refine ⟨fun W2 hW => ⟨by simp, by omega, fun hp => ⟨_, rfl, fun i p hi => ?_⟩⟩, h4⟩
    have hg : W2.heap[g]? = some (.cells cur 5 (0, 0)) := (hW g h2 (blk_lt h3)).trans h3
    have hin : i < n := by have := (List.getElem?_eq_some_iff.1 hi).1; simpa using this
    have hpm : p = mk := by rw [List.getElem?_replicate, if_pos hin] at hi; exact (Option.some.inj hi).symm
    subst hpm
    refine ⟨[.int .u8 p], rfl, rfl, fun q u hq => ?_⟩
    obtain ⟨rfl, rfl⟩ : q = 0 ∧ u = .int .u8 p := by
      cases q with
      | zero => simp at hq; exact ⟨rfl, hq.symm⟩
      | succ q => simp at hq
    rw [show i * By.sz + 0 = i from by show i * 1 + 0 = i; omega, add_plain, blk_cell hg]
    exact h7 i hin hin
end
section
variable {w w' : World} {base : Nat} {o : Nat → Prop} {mk : Int}
/-- Cells of one block set one by one. -/
theorem blk_setCells {g : Nat} {t : TypeId} : ∀ (vs : List Value) (off : Nat) (w : World) (cs : Array Value), w.heap[g]? = some (.cells cs t (0, 0)) →
    ∃ cs' : Array Value, (w.setCells g off vs).heap[g]? = some (.cells cs' t (0, 0)) ∧ cs'.size = cs.size ∧ (∀ i, i < off → cs'[i]? = cs[i]?) ∧ (∀ j u, vs[j]? = some u → off + j < cs.size → cs'[off + j]? = some u) := by
  intro vs
  induction vs with
  | nil => intro off w cs h; exact ⟨cs, h, rfl, fun _ _ => rfl, fun j u hj => by simp at hj⟩
  | cons v r ih =>
    intro off w cs h
    obtain ⟨cs', h1, h2, h3, h4⟩ := ih (off + 1) (w.setCell ⟨g, off, none⟩ v) _ (blk_set h off v)
    refine ⟨cs', h1, by rw [h2, Array.size_setIfInBounds], fun i hi => by rw [h3 i (by omega), Array.getElem?_setIfInBounds_ne (by omega)], fun j u hj hlt => ?_⟩
    cases j with
    | zero =>
      simp at hj
      subst hj
      rw [Nat.add_zero, h3 off (by omega)]
      simp at hlt
      simp [hlt]
    | succ j =>
      rw [show off + (j + 1) = off + 1 + j by omega]
      exact h4 j u (by simpa using hj) (by rw [Array.size_setIfInBounds]; omega)
theorem upd_setCells {g : Nat} : ∀ (vs : List Value) (off : Nat) (w : World), Upd w (w.setCells g off vs) (fun k => k = g) := by
  intro vs
  induction vs with
  | nil => intro off w; exact Upd.refl _ _
  | cons v r ih =>
    intro off w
    exact ((Upd.refl w (fun k => k = g)).setCell (p := ⟨g, off, none⟩) (fun _ => rfl) v).then_ (ih (off + 1) _) (fun _ _ h => h)
/-- A block known cell by cell reads as its marks. -/
theorem blk_marks {g n : Nat} {cur : Array Value} (hg : w.heap[g]? = some (.cells cur 5 (0, 0))) (ho : o g) (hn : n ≤ 9223372036854775807) (hm : ∀ i, i < n → cur[i]? = some (.int .u8 mk)) :
    Kd.F By w o (some ⟨g, 0, none⟩) n (List.replicate n mk) := by
  intro W2 hW
  refine ⟨by simp, by omega, fun hp => ⟨_, rfl, fun i p hi => ?_⟩⟩
  have hg2 : W2.heap[g]? = some (.cells cur 5 (0, 0)) := (hW g ho (blk_lt hg)).trans hg
  have hin : i < n := by have := (List.getElem?_eq_some_iff.1 hi).1; simpa using this
  have hpm : p = mk := by rw [List.getElem?_replicate, if_pos hin] at hi; exact (Option.some.inj hi).symm
  subst hpm
  refine ⟨[.int .u8 p], rfl, rfl, fun q u hq => ?_⟩
  obtain ⟨rfl, rfl⟩ : q = 0 ∧ u = .int .u8 p := by
    cases q with
    | zero => simp at hq; exact ⟨rfl, hq.symm⟩
    | succ q => simp at hq
  rw [show i * By.sz + 0 = i from by show i * 1 + 0 = i; omega, add_plain, blk_cell hg2]
  exact hm i hin
theorem own_marks {n : Nat} {v : Value} (hn : 0 < n) (hl : n ≤ 9223372036854775807) (h : w.ownsRow base 5 1 v n (List.replicate n (.int .u8 mk))) (ho : ∀ k, base ≤ k → o k) :
    ∃ A c, v = .slice A n c ∧ n ≤ c ∧ Kd.F By w o A n (List.replicate n mk) := by
  rcases h.2 with ⟨_, h0⟩ | ⟨g, cap, cur, rfl, hb, hh, h1, h2, h3, h4⟩
  · omega
  · refine ⟨_, cap, rfl, h1, blk_marks hh (ho g hb) hl fun i hi => ?_⟩
    have : (cur.toList.take (n * 1))[i]? = some (.int .u8 mk) := by rw [h4]; simp [hi]
    rw [List.getElem?_take] at this
    simpa [hi] using this
/-- A block known cell by cell. -/
theorem blk_list {l : List Int} {g : Nat} {cur : Array Value} (hg : w.heap[g]? = some (.cells cur 5 (0, 0))) (ho : o g) (hn : l.length ≤ 9223372036854775807) (hm : ∀ (i : Nat) (p : Int), l[i]? = some p → cur[i]? = some (Value.int .u8 p)) :
    Kd.F By w o (some ⟨g, 0, none⟩) l.length l := by
  intro W2 hW
  refine ⟨rfl, hn, fun hp => ⟨_, rfl, fun i p hi => ?_⟩⟩
  have hg2 : W2.heap[g]? = some (.cells cur 5 (0, 0)) := (hW g ho (blk_lt hg)).trans hg
  refine ⟨[.int .u8 p], rfl, rfl, fun q u hq => ?_⟩
  obtain ⟨rfl, rfl⟩ : q = 0 ∧ u = .int .u8 p := by
    cases q with
    | zero => simp at hq; exact ⟨rfl, hq.symm⟩
    | succ q => simp at hq
  rw [show i * By.sz + 0 = i from by show i * 1 + 0 = i; omega, add_plain, blk_cell hg2]
  exact hm i p hi
theorem own_list {l : List Int} {v : Value} (hn : 0 < l.length) (hl : l.length ≤ 9223372036854775807) (h : w.ownsRow base 5 1 v l.length (nums .u8 l)) (ho : ∀ k, base ≤ k → o k) :
    ∃ A c, v = .slice A l.length c ∧ l.length ≤ c ∧ Kd.F By w o A l.length l := by
  rcases h.2 with ⟨_, h0⟩ | ⟨g, cap, cur, rfl, hb, hh, h1, h2, h3, h4⟩
  · omega
  · refine ⟨_, cap, rfl, h1, blk_list hh (ho g hb) hl fun i p hi => ?_⟩
    have hil := (List.getElem?_eq_some_iff.1 hi).1
    have : (cur.toList.take (l.length * 1))[i]? = some (.int .u8 p) := by rw [h4]; simp [nums, hi]
    rw [List.getElem?_take] at this
    simpa [hil] using this
/-- 'append(b, tail...)' of a row full of marks: the marks and the tail, b as it was. -/
theorem run_append_tail {ty : TypeId} {A A3 : Option Addr} {n c c3 b3 : Nat} {oT : Nat → Prop} {tl : List Int}
    (hM : Mk w (.slice A n c) n base o n mk) (hT : Kd.R By 5 w b3 oT (.slice A3 tl.length c3) tl) (hn : n ≤ 70368744177664) (hm : 0 < tl.length ∧ tl.length ≤ 70368744177664) :
    ∃ A' c' w', (Builtin.append_ #[23, 23] ty #[.slice A n c, .slice A3 tl.length c3]).run Tryd.prog w = .ok (.slice A' (n + tl.length) c') w' ∧ n + tl.length ≤ c' ∧ Kd.F By w' (fun k => o k ∨ w.heap.size ≤ k) A' (n + tl.length) (List.replicate n mk ++ tl) ∧ Mk w' (.slice A n c) n base o n mk ∧ Upd w w' o := by
  obtain ⟨i5, hi5, hi5'⟩ := Option.map_eq_some_iff.1 info5
  have z1 : i5.zero = some (.int .u8 0) := congrArg (fun t => t.1) hi5'
  have z2 : i5.size = 1 := congrArg (fun t => t.2.1) hi5'
  have z3 : i5.bytes = 1 := congrArg (fun t => t.2.2) hi5'
  have hoT := Hand.own_of_R hT
  rcases hoT.2 with ⟨h0, _⟩ | ⟨g3, cap3, cur3, e3, hb3, hh3, k1, k2, k3, k4⟩
  · injection h0 with _ h0 _; omega
  injection e3 with q1 q2 q3
  subst q1 q3
  have hnl : (nums .u8 tl).length = tl.length := by simp [nums]
  have hnews : ∀ j u, (nums .u8 tl)[j]? = some u → w.cell? ((⟨g3, 0, none⟩ : Addr).add j) = some u := by
    intro j u hj
    have hjl : j < tl.length := by have := (List.getElem?_eq_some_iff.1 hj).1; omega
    rw [add_plain, blk_cell hh3]
    have : (cur3.toList.take (tl.length * 1))[j]? = some u := by rw [k4]; exact hj
    rw [List.getElem?_take] at this
    simpa [hjl] using this
  have h1c : ∀ u ∈ nums .u8 tl, u.oneCell' = true := fun u hu => by
    unfold nums at hu
    obtain ⟨x, _, rfl⟩ := List.mem_map.1 hu
    rfl
  have hla : (List.replicate n mk ++ tl).length = n + tl.length := by simp
  rcases hM with ⟨rfl, e⟩ | ⟨g, cap, cur, e, hb, ho, hh, h4, h5, h6, h7⟩
  · injection e with e1 e2 e4
    subst e1 e4
    obtain ⟨v', w', hrun, r1, r2, _⟩ := run_append_own (P := Tryd.prog) w w.heap.size 23 ty 5 i5 (.int .u8 0) 1 1 Tryd.underlying23 hi5 z1 z2 z3 rfl (by decide) (.slice none 0 0) 0 [] (World.ownsRow_nil w _ 5 1) ⟨g3, 0, none⟩ tl.length c3 (nums .u8 tl) (by simp [nums]) hnews h1c (by simp only [maxLen]; omega) (by omega) (Nat.le_refl _)
    obtain ⟨A', c', rfl, hc', hF⟩ := own_list (o := fun k => o k ∨ w.heap.size ≤ k) (l := tl) (by omega) (by omega) (by simpa using r1) (fun k hk => .inr hk)
    exact ⟨A', c', w', by simpa using hrun, by omega, by simpa using hF, .inl ⟨rfl, rfl⟩, (Upd.refl w o).grown r2 (fun k hk => by simp [Value.ownBlock] at hk)⟩
  · injection e with e1 e2 e4
    subst e1 e4
    have hcell : ∀ j u, (List.replicate n (Value.int .u8 mk))[j]? = some u → w.cell? ((⟨g, 0, none⟩ : Addr).add j) = some u := by
      intro j u hj
      have hjn : j < n := by have := (List.getElem?_eq_some_iff.1 hj).1; simpa using this
      rw [List.getElem?_replicate, if_pos hjn] at hj
      obtain rfl := Option.some.inj hj
      rw [add_plain, blk_cell hh]
      exact h7 j hjn hjn
    by_cases hr : n + tl.length ≤ c
    · have hrun := run_append_room_cells (P := Tryd.prog) w 23 ty 5 i5 Tryd.underlying23 hi5 g 0 n c ⟨g3, 0, none⟩ tl.length c3 (nums .u8 tl) (by rw [z2]; simp [nums]) hnews h1c hr (fun j hj => by rw [blk_cell hh, z2]; simp; omega) (fun j hj => blk_frozen hh _)
      rw [z2] at hrun
      obtain ⟨cs', r1, r2, r3, r4⟩ := blk_setCells (nums .u8 tl) (0 + n * 1) w cur hh
      have hU := (upd_setCells (g := g) (nums .u8 tl) (0 + n * 1) w).mono (S' := o) (fun k _ hk => by subst hk; exact ho)
      have hF := blk_list (l := List.replicate n mk ++ tl) (o := fun k => o k ∨ w.heap.size ≤ k) r1 (.inl ho) (by omega) fun i p hi => ?_
      · rw [hla] at hF
        exact ⟨_, c, _, hrun, by omega, hF, .inr ⟨g, c, cs', rfl, hb, ho, r1, h4, h5, by rw [r2, h6], fun i hi _ => by rw [r3 i (by omega)]; exact h7 i hi hi⟩, hU⟩
      · by_cases hin : i < n
        · rw [List.getElem?_append_left (by simpa using hin), List.getElem?_replicate, if_pos hin] at hi
          obtain rfl := Option.some.inj hi
          rw [r3 i (by omega)]; exact h7 i hin hin
        · rw [List.getElem?_append_right (by simp; omega), List.length_replicate] at hi
          have hil := (List.getElem?_eq_some_iff.1 hi).1
          have := r4 (i - n) (.int .u8 p) (by simp [nums, hi]) (by omega)
          rwa [show 0 + n * 1 + (i - n) = i by omega] at this
    · obtain ⟨v', w', hrun, hown, hg⟩ := run_append_arg_grows (P := Tryd.prog) w 23 ty 5 i5 (.int .u8 0) 1 1 Tryd.underlying23 hi5 z1 z2 z3 rfl (by decide) ⟨g, 0, none⟩ n c (List.replicate n (.int .u8 mk)) (by simp) hcell ⟨g3, 0, none⟩ tl.length c3 (nums .u8 tl) (by simp [nums]) hnews (by omega) (by simp only [maxLen]; omega) (by omega)
      obtain ⟨A', c', rfl, hc', hF⟩ := own_list (o := fun k => o k ∨ w.heap.size ≤ k) (l := List.replicate n mk ++ tl) (by omega) (by omega) (by rw [hla]; simpa [nums] using hown) (fun k hk => .inr hk)
      rw [hla] at hc' hF hrun
      exact ⟨A', c', w', hrun, hc', hF, .inr ⟨g, c, cur, rfl, hb, ho, (hg.block g (blk_lt hh) (by simp)).trans hh, h4, h5, h6, h7⟩, (Upd.refl w o).grown hg (fun k hk => by simp at hk)⟩
/-- The same as a step of a region. -/
theorem append_tail_step {ops : Array Oper} {od : Oper} {a : Act} {Q : Exit → Act → World → Prop} {Kc : Act → World → Prop} (hw : Region.wanted od (yielded ops a.tmps) = true) (s x : Operand) (hop : od.op = Op.call { callee := Callee.builtin Builtin.append, args := #[s, x], argTypes := #[23, 23] })
    {A A3 : Option Addr} {n c c3 b3 : Nat} {oT : Nat → Prop} {tl : List Int} (hs : a.eval s = .slice A n c) (hx : a.eval x = .slice A3 tl.length c3)
    (hM : Mk w (.slice A n c) n base o n mk) (hT : Kd.R By 5 w b3 oT (.slice A3 tl.length c3) tl) (hn : n ≤ 70368744177664) (hm : 0 < tl.length ∧ tl.length ≤ 70368744177664)
    (h : ∀ A' c' w', n + tl.length ≤ c' → Kd.F By w' (fun k => o k ∨ w.heap.size ≤ k) A' (n + tl.length) (List.replicate n mk ++ tl) → Mk w' (.slice A n c) n base o n mk → Upd w w' o → Kc (a.put od.dst (.slice A' (n + tl.length) c')) w') :
    if Region.wanted od (yielded ops a.tmps) = true then Oper.wp Tryd.prog od a w Kc Q else Kc (a.put od.dst undef) w := by
  obtain ⟨A', c', w', hrun, h1, h2, h3, h4⟩ := run_append_tail (ty := od.type) hM hT hn hm
  rw [if_pos hw]
  unfold Oper.wp
  simp [execOp, hop, resolve, invoke, builtin, hs, hx, hrun, Result.andThen]
  exact h A' c' w' h1 h2 h3 h4
end
end Go.Proofs.YtgfjmpnlkjocaaaDoor.J
