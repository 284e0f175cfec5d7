/- Rows of a shelf: what a call leaves of memory, marks written into a row, a tail appended to it. A shelf of byte strings, each in a block of its own, written full with its own mark; what is laid behind each. told: the walk. No condition but the shelf's bulk. A shelf that is filled: byte strings laid on it one by one, or another shelf's all together. No condition but what is said. -/
import Derived.Test.YtgfjmpnlkjocaaaDoorJx0
import Derived.ArgAppend
import Derived.LoopTactic
import Derived.RegionTactic
import Derived.Test.YtgfjmpnlkjocaaaDoorJx7
import Derived.Test.YtgfjmpnlkjocaaaDoorJFrameF
import Derived.Test.YtgfjmpnlkjocaaaDoorJFrameR
import Derived.Deep.CutBlock
namespace Go.Proofs.YtgfjmpnlkjocaaaDoor.J
open Go.RowKit Go.Proofs.YtgfjmpnlkjocaaaDoorW.PrintWords Go.Proofs.YtgfjmpnlkjocaaaDoorW.PrintLast Go.Proofs.YtgfjmpnlkjocaaaDoorW.PrintMore
attribute [local go_sem] max2_int min2_int max_two min_two max_three min_three max_four min_four
set_option linter.unusedVariables false
set_option linter.unusedSimpArgs false
set_option maxRecDepth 100000
abbrev By := Kd.int .u8
structure Upd (W W' : World) (S : Nat → Prop) : Prop where
  os : W'.os = W.os
  tape : W'.tape = W.tape
  output : W'.output = W.output
  size : W.heap.size ≤ W'.heap.size
  block : ∀ i, i < W.heap.size → ¬ S i → W'.heap[i]? = W.heap[i]?
section
variable {W W1 W2 : World} {S S' S2 : Nat → Prop}
theorem Upd.refl (W : World) (S : Nat → Prop) : Upd W W S := ⟨rfl, rfl, rfl, Nat.le_refl _, fun _ _ _ => rfl⟩
theorem Upd.of_below (h : Below W.heap.size W W1) (S : Nat → Prop) : Upd W W1 S := ⟨h.os, h.tape, h.output, h.size, fun i hi _ => h.block i hi⟩
theorem Upd.mono (h : Upd W W1 S) (hs : ∀ k, k < W.heap.size → S k → S' k) : Upd W W1 S' := ⟨h.os, h.tape, h.output, h.size, fun i hi hn => h.block i hi (fun hk => hn (hs i hi hk))⟩
theorem Upd.then_ (h : Upd W W1 S) (k : Upd W1 W2 S2) (hs : ∀ k, k < W.heap.size → S2 k → S k) : Upd W W2 S :=
  ⟨k.os.trans h.os, k.tape.trans h.tape, k.output.trans h.output, Nat.le_trans h.size k.size, fun i hi hn => (k.block i (Nat.lt_of_lt_of_le hi h.size) (fun h2 => hn (hs i hi h2))).trans (h.block i hi hn)⟩
theorem Upd.grown {row : Option Nat} (h : Upd W W1 S) (hg : W1.grownBy W2 row) (hr : ∀ k, row = some k → k < W.heap.size → S k) : Upd W W2 S :=
  h.then_ (S2 := fun k => row = some k) ⟨hg.os, hg.tape, hg.output, hg.size, fun i hi hn => hg.block i hi (fun he => hn he.symm)⟩ (fun k hk h2 => hr k h2 hk)
theorem Upd.alloc (h : Upd W W1 S) (o : Obj) : Upd W (W1.alloc o) S := h.then_ (Upd.of_below (below_alloc (Below.refl _ _) o) (fun _ => False)) (fun _ _ hk => hk.elim)
theorem Upd.drew (h : Upd W W1 S) : Upd W W1.drew S := ⟨h.os, h.tape, h.output, h.size, h.block⟩
theorem Upd.drewN (h : Upd W W1 S) (n : Nat) : Upd W (W1.drewN n) S := ⟨h.os, h.tape, h.output, h.size, h.block⟩
theorem Upd.setCell (h : Upd W W1 S) {p : Addr} (hp : p.block < W.heap.size → S p.block) (u : Value) : Upd W (W1.setCell p u) S :=
  h.then_ (S2 := fun k => k = p.block) ⟨rfl, rfl, rfl, by simp [World.setCell], fun i _ hn => Below.heap_setCell W1 p u i hn⟩ (fun k hk h2 => by subst h2; exact hp hk)
theorem Upd.below (h : Upd W W1 S) {B : Nat} {w : World} (hb : Below B w W) (hS : ∀ k, S k → B ≤ k) (hB : B ≤ W.heap.size) : Below B w W1 :=
  hb.trans ⟨h.os, h.tape, h.output, h.size, fun k hk => h.block k (Nat.lt_of_lt_of_le hk hB) (fun hs => by have := hS k hs; omega)⟩
end
section
variable {α : Type} {d : Kd α} {W W' : World} {ok ok' S : Nat → Prop} {A : Option Addr} {n : Nat} {xs : List α}
theorem f_now (h : Kd.F d W ok A n xs) : Kd.C d W A n xs := h W (fun _ _ _ => rfl)
theorem f_upd (h : Kd.F d W ok A n xs) (hu : Upd W W' S) (hne : ∀ k, ok k → k < W.heap.size → ¬ S k) : Kd.F d W' ok A n xs := fun W2 h2 => h W2 (fun k hk hlt => (h2 k hk (Nat.lt_of_lt_of_le hlt hu.size)).trans (hu.block k hlt (hne k hk hlt)))
theorem f_below (h : Kd.F d W ok A n xs) (hb : Below W.heap.size W W') : Kd.F d W' ok A n xs := f_upd h (Upd.of_below hb (fun _ => False)) (fun _ _ _ hk => hk)
theorem f_mono (h : Kd.F d W ok A n xs) (hok : ∀ k, ok k → ok' k) : Kd.F d W ok' A n xs := fun W2 h2 => h W2 (fun k hk hlt => h2 k (hok k hk) hlt)
theorem f_bd (h : Kd.F d W ok A n xs) (hok : ∀ k, ok k → k < W.heap.size → ok' k) : Kd.F d W ok' A n xs := fun W2 h2 => h W2 (fun k hk hlt => h2 k (hok k hk hlt) hlt)
theorem f_nil (W : World) (ok : Nat → Prop) : Kd.F d W ok none 0 ([] : List α) := fun W2 _ => Kd.C_nil d W2
end
theorem rsl {α : Type} {d : Kd α} {e base : Nat} {w : World} {ok : Nat → Prop} {v : Value} {xs : List α} (h : d.R e w base ok v xs) : ∃ A c, v = .slice A xs.length c ∧ xs.length ≤ c := by
  obtain ⟨A, c, rfl, hc, _⟩ := Kd.R_reads h
  exact ⟨A, c, rfl, hc⟩
theorem below_drew1_ {W w : World} (h : Below W.drew.heap.size W.drew w) : Below W.heap.size W w := (below_drew1 (Below.refl _ W)).trans h
theorem bx (W : World) (o : Obj) : Below W.heap.size W (W.alloc o) := below_alloc (Below.refl _ _) _
/-- A row of bytes known whole: its block, its room, its first j bytes the mark. -/
def Mk (w : World) (v : Value) (n : Nat) (base : Nat) (o : Nat → Prop) (j : Nat) (mk : Int) : Prop :=
  (n = 0 ∧ v = .slice none 0 0) ∨ ∃ g cap cur, v = .slice (some ⟨g, 0, none⟩) n cap ∧ base ≤ g ∧ o g ∧ w.heap[g]? = some (.cells cur 5 (0, 0)) ∧ n ≤ cap ∧ cap ≤ 9223372036854775807 ∧ cur.size = cap ∧ ∀ i, i < j → i < n → cur[i]? = some (.int .u8 mk)
section
variable {w w' : World} {v : Value} {n base j : Nat} {o S : Nat → Prop} {mk : Int} {l : List Int}
theorem mk_row (h : Kd.R By 5 w base o v l) (mk : Int) : Mk w v l.length base o 0 mk := by
  have ho := Hand.own_of_R h
  rcases ho.2 with ⟨rfl, hn⟩ | ⟨g, cap, cur, rfl, hb, hh, h1, h2, h3, _⟩
  · exact .inl ⟨hn, rfl⟩
  · exact .inr ⟨g, cap, cur, rfl, hb, h.1 g rfl, hh, h1, by simpa [maxLen] using h2, by simpa using h3, fun i hi => by omega⟩
theorem Mk.upd (h : Mk w v n base o j mk) (hu : Upd w w' S) (hS : ∀ k, o k → ¬ S k) : Mk w' v n base o j mk := by
  rcases h with h | ⟨g, cap, cur, e, h1, h2, h3, h4⟩
  · exact .inl h
  · exact .inr ⟨g, cap, cur, e, h1, h2, (hu.block g (blk_lt h3) (hS g h2)).trans h3, h4⟩
theorem Mk.below (h : Mk w v n base o j mk) (hb : Below w.heap.size w w') : Mk w' v n base o j mk := h.upd (Upd.of_below hb (fun _ => False)) (fun _ _ h_ => h_)
/-- The next byte. -/
theorem mk_at {A : Option Addr} {c : Nat} (h : Mk w (.slice A n c) n base o j mk) (hj : j < n) : ∃ g u, A = some ⟨g, 0, none⟩ ∧ (⟨g, 0, none⟩ : Addr).add j = ⟨g, j, none⟩ ∧ o g ∧ base ≤ g ∧ w.cell? ⟨g, j, none⟩ = some u ∧ w.frozen? ⟨g, j, none⟩ = false ∧ (∃ cells, w.heap[g]? = some (.cells cells 5 (0, 0))) ∧ Mk (w.setCell ⟨g, j, none⟩ (.int .u8 mk)) (.slice A n c) n base o (j + 1) mk := by
  rcases h with ⟨h, _⟩ | ⟨g, cap, cur, e, h1, h2, h3, h4, h5, h6, h7⟩
  · omega
  · injection e with e1 e2 e3
    subst e1 e3
    have hlt : j < cur.size := by omega
    refine ⟨g, cur[j], rfl, add_plain g j, h2, h1, by rw [blk_cell h3]; simp [hlt], blk_frozen h3 _, ⟨_, h3⟩, .inr ⟨g, c, _, rfl, h1, h2, blk_set h3 j _, h4, h5, by rw [Array.size_setIfInBounds]; exact h6, fun i hi hin => ?_⟩⟩
    by_cases he : i = j
    · subst he; simp [hlt]
    · rw [Array.getElem?_setIfInBounds_ne (Ne.symm he)]; exact h7 i (by omega) hin
/-- All of it written: it reads as the mark. -/
theorem Mk.reads {A : Option Addr} {c : Nat} (h : Mk w (.slice A n c) n base o n mk) : Kd.F By w o A n (List.replicate n mk) ∧ n ≤ c := by
  rcases h with ⟨rfl, e⟩ | ⟨g, cap, cur, e, h1, h2, h3, h4, h5, h6, h7⟩
  · injection e with e1 e2 e3
    subst e1 e3
    exact ⟨f_nil _ _, Nat.le_refl _⟩
  · injection e with e1 e2 e3
    subst e1 e3
    refine ⟨fun W2 hW => ⟨by simp, by omega, fun hp => ⟨_, rfl, fun i p hi => ?_⟩⟩, h4⟩
    have hg : W2.heap[g]? = some (.cells cur 5 (0, 0)) := (hW g h2 (blk_lt h3)).trans h3
    have hin : i < n := by have := (List.getElem?_eq_some_iff.1 hi).1; simpa using this
    have hpm : p = mk := by rw [List.getElem?_replicate, if_pos hin] at hi; exact (Option.some.inj hi).symm
    subst hpm
    refine ⟨[.int .u8 p], rfl, rfl, fun q u hq => ?_⟩
    obtain ⟨rfl, rfl⟩ : q = 0 ∧ u = .int .u8 p := by
      cases q with
      | zero => simp at hq; exact ⟨rfl, hq.symm⟩
      | succ q => simp at hq
    rw [show i * By.sz + 0 = i from by show i * 1 + 0 = i; omega, add_plain, blk_cell hg]
    exact h7 i hin hin
end
section
variable {w w' : World} {base : Nat} {o : Nat → Prop} {mk : Int}
/-- Cells of one block set one by one. -/
theorem blk_setCells {g : Nat} {t : TypeId} : ∀ (vs : List Value) (off : Nat) (w : World) (cs : Array Value), w.heap[g]? = some (.cells cs t (0, 0)) →
    ∃ cs' : Array Value, (w.setCells g off vs).heap[g]? = some (.cells cs' t (0, 0)) ∧ cs'.size = cs.size ∧ (∀ i, i < off → cs'[i]? = cs[i]?) ∧ (∀ j u, vs[j]? = some u → off + j < cs.size → cs'[off + j]? = some u) := by
  intro vs
  induction vs with
  | nil => intro off w cs h; exact ⟨cs, h, rfl, fun _ _ => rfl, fun j u hj => by simp at hj⟩
  | cons v r ih =>
    intro off w cs h
    obtain ⟨cs', h1, h2, h3, h4⟩ := ih (off + 1) (w.setCell ⟨g, off, none⟩ v) _ (blk_set h off v)
    refine ⟨cs', h1, by rw [h2, Array.size_setIfInBounds], fun i hi => by rw [h3 i (by omega), Array.getElem?_setIfInBounds_ne (by omega)], fun j u hj hlt => ?_⟩
    cases j with
    | zero =>
      simp at hj
      subst hj
      rw [Nat.add_zero, h3 off (by omega)]
      simp at hlt
      simp [hlt]
    | succ j =>
      rw [show off + (j + 1) = off + 1 + j by omega]
      exact h4 j u (by simpa using hj) (by rw [Array.size_setIfInBounds]; omega)
theorem upd_setCells {g : Nat} : ∀ (vs : List Value) (off : Nat) (w : World), Upd w (w.setCells g off vs) (fun k => k = g) := by
  intro vs
  induction vs with
  | nil => intro off w; exact Upd.refl _ _
  | cons v r ih =>
    intro off w
    exact ((Upd.refl w (fun k => k = g)).setCell (p := ⟨g, off, none⟩) (fun _ => rfl) v).then_ (ih (off + 1) _) (fun _ _ h => h)
/-- A block known cell by cell reads as its marks. -/
theorem blk_marks {g n : Nat} {cur : Array Value} (hg : w.heap[g]? = some (.cells cur 5 (0, 0))) (ho : o g) (hn : n ≤ 9223372036854775807) (hm : ∀ i, i < n → cur[i]? = some (.int .u8 mk)) :
    Kd.F By w o (some ⟨g, 0, none⟩) n (List.replicate n mk) := by
  intro W2 hW
  refine ⟨by simp, by omega, fun hp => ⟨_, rfl, fun i p hi => ?_⟩⟩
  have hg2 : W2.heap[g]? = some (.cells cur 5 (0, 0)) := (hW g ho (blk_lt hg)).trans hg
  have hin : i < n := by have := (List.getElem?_eq_some_iff.1 hi).1; simpa using this
  have hpm : p = mk := by rw [List.getElem?_replicate, if_pos hin] at hi; exact (Option.some.inj hi).symm
  subst hpm
  refine ⟨[.int .u8 p], rfl, rfl, fun q u hq => ?_⟩
  obtain ⟨rfl, rfl⟩ : q = 0 ∧ u = .int .u8 p := by
    cases q with
    | zero => simp at hq; exact ⟨rfl, hq.symm⟩
    | succ q => simp at hq
  rw [show i * By.sz + 0 = i from by show i * 1 + 0 = i; omega, add_plain, blk_cell hg2]
  exact hm i hin
theorem own_marks {n : Nat} {v : Value} (hn : 0 < n) (hl : n ≤ 9223372036854775807) (h : w.ownsRow base 5 1 v n (List.replicate n (.int .u8 mk))) (ho : ∀ k, base ≤ k → o k) :
    ∃ A c, v = .slice A n c ∧ n ≤ c ∧ Kd.F By w o A n (List.replicate n mk) := by
  rcases h.2 with ⟨_, h0⟩ | ⟨g, cap, cur, rfl, hb, hh, h1, h2, h3, h4⟩
  · omega
  · refine ⟨_, cap, rfl, h1, blk_marks hh (ho g hb) hl fun i hi => ?_⟩
    have : (cur.toList.take (n * 1))[i]? = some (.int .u8 mk) := by rw [h4]; simp [hi]
    rw [List.getElem?_take] at this
    simpa [hi] using this
/-- A block known cell by cell. -/
theorem blk_list {l : List Int} {g : Nat} {cur : Array Value} (hg : w.heap[g]? = some (.cells cur 5 (0, 0))) (ho : o g) (hn : l.length ≤ 9223372036854775807) (hm : ∀ (i : Nat) (p : Int), l[i]? = some p → cur[i]? = some (Value.int .u8 p)) :
    Kd.F By w o (some ⟨g, 0, none⟩) l.length l := by
  intro W2 hW
  refine ⟨rfl, hn, fun hp => ⟨_, rfl, fun i p hi => ?_⟩⟩
  have hg2 : W2.heap[g]? = some (.cells cur 5 (0, 0)) := (hW g ho (blk_lt hg)).trans hg
  refine ⟨[.int .u8 p], rfl, rfl, fun q u hq => ?_⟩
  obtain ⟨rfl, rfl⟩ : q = 0 ∧ u = .int .u8 p := by
    cases q with
    | zero => simp at hq; exact ⟨rfl, hq.symm⟩
    | succ q => simp at hq
  rw [show i * By.sz + 0 = i from by show i * 1 + 0 = i; omega, add_plain, blk_cell hg2]
  exact hm i p hi
theorem own_list {l : List Int} {v : Value} (hn : 0 < l.length) (hl : l.length ≤ 9223372036854775807) (h : w.ownsRow base 5 1 v l.length (nums .u8 l)) (ho : ∀ k, base ≤ k → o k) :
    ∃ A c, v = .slice A l.length c ∧ l.length ≤ c ∧ Kd.F By w o A l.length l := by
  rcases h.2 with ⟨_, h0⟩ | ⟨g, cap, cur, rfl, hb, hh, h1, h2, h3, h4⟩
  · omega
  · refine ⟨_, cap, rfl, h1, blk_list hh (ho g hb) hl fun i p hi => ?_⟩
    have hil := (List.getElem?_eq_some_iff.1 hi).1
    have : (cur.toList.take (l.length * 1))[i]? = some (.int .u8 p) := by rw [h4]; simp [nums, hi]
    rw [List.getElem?_take] at this
    simpa [hil] using this
/-- 'append(b, tail...)' of a row full of marks: the marks and the tail, b as it was. -/
theorem run_append_tail {ty : TypeId} {A A3 : Option Addr} {n c c3 b3 : Nat} {oT : Nat → Prop} {tl : List Int}
    (hM : Mk w (.slice A n c) n base o n mk) (hT : Kd.R By 5 w b3 oT (.slice A3 tl.length c3) tl) (hn : n ≤ 70368744177664) (hm : 0 < tl.length ∧ tl.length ≤ 70368744177664) :
    ∃ A' c' w', (Builtin.append_ #[23, 23] ty #[.slice A n c, .slice A3 tl.length c3]).run Tryd.prog w = .ok (.slice A' (n + tl.length) c') w' ∧ n + tl.length ≤ c' ∧ Kd.F By w' (fun k => o k ∨ w.heap.size ≤ k) A' (n + tl.length) (List.replicate n mk ++ tl) ∧ Mk w' (.slice A n c) n base o n mk ∧ Upd w w' o := by
  obtain ⟨i5, hi5, hi5'⟩ := Option.map_eq_some_iff.1 info5
  have z1 : i5.zero = some (.int .u8 0) := congrArg (fun t => t.1) hi5'
  have z2 : i5.size = 1 := congrArg (fun t => t.2.1) hi5'
  have z3 : i5.bytes = 1 := congrArg (fun t => t.2.2) hi5'
  have hoT := Hand.own_of_R hT
  rcases hoT.2 with ⟨h0, _⟩ | ⟨g3, cap3, cur3, e3, hb3, hh3, k1, k2, k3, k4⟩
  · injection h0 with _ h0 _; omega
  injection e3 with q1 q2 q3
  subst q1 q3
  have hnl : (nums .u8 tl).length = tl.length := by simp [nums]
  have hnews : ∀ j u, (nums .u8 tl)[j]? = some u → w.cell? ((⟨g3, 0, none⟩ : Addr).add j) = some u := by
    intro j u hj
    have hjl : j < tl.length := by have := (List.getElem?_eq_some_iff.1 hj).1; omega
    rw [add_plain, blk_cell hh3]
    have : (cur3.toList.take (tl.length * 1))[j]? = some u := by rw [k4]; exact hj
    rw [List.getElem?_take] at this
    simpa [hjl] using this
  have h1c : ∀ u ∈ nums .u8 tl, u.oneCell' = true := fun u hu => by
    unfold nums at hu
    obtain ⟨x, _, rfl⟩ := List.mem_map.1 hu
    rfl
  have hla : (List.replicate n mk ++ tl).length = n + tl.length := by simp
  rcases hM with ⟨rfl, e⟩ | ⟨g, cap, cur, e, hb, ho, hh, h4, h5, h6, h7⟩
  · injection e with e1 e2 e4
    subst e1 e4
    obtain ⟨v', w', hrun, r1, r2, _⟩ := run_append_own (P := Tryd.prog) w w.heap.size 23 ty 5 i5 (.int .u8 0) 1 1 Tryd.underlying23 hi5 z1 z2 z3 rfl (by decide) (.slice none 0 0) 0 [] (World.ownsRow_nil w _ 5 1) ⟨g3, 0, none⟩ tl.length c3 (nums .u8 tl) (by simp [nums]) hnews h1c (by simp only [maxLen]; omega) (by omega) (Nat.le_refl _)
    obtain ⟨A', c', rfl, hc', hF⟩ := own_list (o := fun k => o k ∨ w.heap.size ≤ k) (l := tl) (by omega) (by omega) (by simpa using r1) (fun k hk => .inr hk)
    exact ⟨A', c', w', by simpa using hrun, by omega, by simpa using hF, .inl ⟨rfl, rfl⟩, (Upd.refl w o).grown r2 (fun k hk => by simp [Value.ownBlock] at hk)⟩
  · injection e with e1 e2 e4
    subst e1 e4
    have hcell : ∀ j u, (List.replicate n (Value.int .u8 mk))[j]? = some u → w.cell? ((⟨g, 0, none⟩ : Addr).add j) = some u := by
      intro j u hj
      have hjn : j < n := by have := (List.getElem?_eq_some_iff.1 hj).1; simpa using this
      rw [List.getElem?_replicate, if_pos hjn] at hj
      obtain rfl := Option.some.inj hj
      rw [add_plain, blk_cell hh]
      exact h7 j hjn hjn
    by_cases hr : n + tl.length ≤ c
    · have hrun := run_append_room_cells (P := Tryd.prog) w 23 ty 5 i5 Tryd.underlying23 hi5 g 0 n c ⟨g3, 0, none⟩ tl.length c3 (nums .u8 tl) (by rw [z2]; simp [nums]) hnews h1c hr (fun j hj => by rw [blk_cell hh, z2]; simp; omega) (fun j hj => blk_frozen hh _)
      rw [z2] at hrun
      obtain ⟨cs', r1, r2, r3, r4⟩ := blk_setCells (nums .u8 tl) (0 + n * 1) w cur hh
      have hU := (upd_setCells (g := g) (nums .u8 tl) (0 + n * 1) w).mono (S' := o) (fun k _ hk => by subst hk; exact ho)
      have hF := blk_list (l := List.replicate n mk ++ tl) (o := fun k => o k ∨ w.heap.size ≤ k) r1 (.inl ho) (by omega) fun i p hi => ?_
      · rw [hla] at hF
        exact ⟨_, c, _, hrun, by omega, hF, .inr ⟨g, c, cs', rfl, hb, ho, r1, h4, h5, by rw [r2, h6], fun i hi _ => by rw [r3 i (by omega)]; exact h7 i hi hi⟩, hU⟩
      · by_cases hin : i < n
        · rw [List.getElem?_append_left (by simpa using hin), List.getElem?_replicate, if_pos hin] at hi
          obtain rfl := Option.some.inj hi
          rw [r3 i (by omega)]; exact h7 i hin hin
        · rw [List.getElem?_append_right (by simp; omega), List.length_replicate] at hi
          have hil := (List.getElem?_eq_some_iff.1 hi).1
          have := r4 (i - n) (.int .u8 p) (by simp [nums, hi]) (by omega)
          rwa [show 0 + n * 1 + (i - n) = i by omega] at this
    · obtain ⟨v', w', hrun, hown, hg⟩ := run_append_arg_grows (P := Tryd.prog) w 23 ty 5 i5 (.int .u8 0) 1 1 Tryd.underlying23 hi5 z1 z2 z3 rfl (by decide) ⟨g, 0, none⟩ n c (List.replicate n (.int .u8 mk)) (by simp) hcell ⟨g3, 0, none⟩ tl.length c3 (nums .u8 tl) (by simp [nums]) hnews (by omega) (by simp only [maxLen]; omega) (by omega)
      obtain ⟨A', c', rfl, hc', hF⟩ := own_list (o := fun k => o k ∨ w.heap.size ≤ k) (l := List.replicate n mk ++ tl) (by omega) (by omega) (by rw [hla]; simpa [nums] using hown) (fun k hk => .inr hk)
      rw [hla] at hc' hF hrun
      exact ⟨A', c', w', hrun, hc', hF, .inr ⟨g, c, cur, rfl, hb, ho, (hg.block g (blk_lt hh) (by simp)).trans hh, h4, h5, h6, h7⟩, (Upd.refl w o).grown hg (fun k hk => by simp at hk)⟩
/-- The same as a step of a region. -/
theorem append_tail_step {ops : Array Oper} {od : Oper} {a : Act} {Q : Exit → Act → World → Prop} {Kc : Act → World → Prop} (hw : Region.wanted od (yielded ops a.tmps) = true) (s x : Operand) (hop : od.op = Op.call { callee := Callee.builtin Builtin.append, args := #[s, x], argTypes := #[23, 23] })
    {A A3 : Option Addr} {n c c3 b3 : Nat} {oT : Nat → Prop} {tl : List Int} (hs : a.eval s = .slice A n c) (hx : a.eval x = .slice A3 tl.length c3)
    (hM : Mk w (.slice A n c) n base o n mk) (hT : Kd.R By 5 w b3 oT (.slice A3 tl.length c3) tl) (hn : n ≤ 70368744177664) (hm : 0 < tl.length ∧ tl.length ≤ 70368744177664)
    (h : ∀ A' c' w', n + tl.length ≤ c' → Kd.F By w' (fun k => o k ∨ w.heap.size ≤ k) A' (n + tl.length) (List.replicate n mk ++ tl) → Mk w' (.slice A n c) n base o n mk → Upd w w' o → Kc (a.put od.dst (.slice A' (n + tl.length) c')) w') :
    if Region.wanted od (yielded ops a.tmps) = true then Oper.wp Tryd.prog od a w Kc Q else Kc (a.put od.dst undef) w := by
  obtain ⟨A', c', w', hrun, h1, h2, h3, h4⟩ := run_append_tail (ty := od.type) hM hT hn hm
  rw [if_pos hw]
  unfold Oper.wp
  simp [execOp, hop, resolve, invoke, builtin, hs, hx, hrun, Result.andThen]
  exact h A' c' w' h1 h2 h3 h4
end
end Go.Proofs.YtgfjmpnlkjocaaaDoor.J
namespace Go.Proofs.YtgfjmpnlkjocaaaDoor.J
open Go.RowKit Go.Proofs.YtgfjmpnlkjocaaaDoorW.PrintWords Go.Proofs.YtgfjmpnlkjocaaaDoorW.PrintLast Go.Proofs.YtgfjmpnlkjocaaaDoorW.PrintMore
set_option linter.unusedVariables false
set_option linter.unusedSimpArgs false
set_option maxRecDepth 100000
/-- The mark of the byte string of that number. -/
def mkb (i : Nat) : Int := (i : Int) % 256
theorem Mk.upd' {w w' : World} {v : Value} {n base j : Nat} {o S : Nat → Prop} {mk : Int} (h : Mk w v n base o j mk) (hu : Upd w w' S) (hS : ∀ k, o k → k < w.heap.size → ¬ S k) : Mk w' v n base o j mk := by
  rcases h with h | ⟨g, cap, cur, e, h1, h2, h3, h4⟩
  · exact .inl h
  · exact .inr ⟨g, cap, cur, e, h1, h2, (hu.block g (blk_lt h3) (hS g h2 (blk_lt h3))).trans h3, h4⟩
theorem Mk.own {w : World} {v : Value} {n base j : Nat} {o o' : Nat → Prop} {mk : Int} (h : Mk w v n base o j mk) (ho : ∀ k, o k → k < w.heap.size → o' k) : Mk w v n base o' j mk := by
  rcases h with h | ⟨g, cap, cur, e, h1, h2, h3, h4⟩
  · exact .inl h
  · exact .inr ⟨g, cap, cur, e, h1, ho g h2 (blk_lt h3), h3, h4⟩
/-- The shelf: own tells each block's owner: 1 the row, 3 + i the byte string of number i, of which f i bytes are marked. -/
structure SK (w : World) (N : Nat) (own : Nat → Nat) (v : Value) (ns : List Nat) (f : Nat → Nat) : Prop where
  row : ∃ rows : List (List Value), rows.length = ns.length ∧ Kd.R (Kd.raw 1) 23 w N (fun k => own k = 1) v rows ∧ ∀ (i n : Nat), ns[i]? = some n → ∃ A c, rows[i]? = some ([.slice A n c] : List Value) ∧ Mk w (.slice A n c) n N (fun k => own k = 3 + i) (f i) (mkb i)
section
variable {w w' : World} {N : Nat} {own own' : Nat → Nat} {v : Value} {ns : List Nat} {f : Nat → Nat} {S : Nat → Prop}
theorem SK.upd (h : SK w N own v ns f) (hu : Upd w w' S) (hS : ∀ k, k < w.heap.size → S k → own k = 0 ∨ own k = 2) : SK w' N own v ns f := by
  obtain ⟨rows, e, hr, hx⟩ := h.row
  refine ⟨rows, e, Kd.R_step hr (fun k hk hlt => hu.block k hlt (fun h_ => by have := hS k hlt h_; omega)), fun i n hi => ?_⟩
  obtain ⟨A, c, h1, h2⟩ := hx i n hi
  exact ⟨A, c, h1, h2.upd' hu (fun k hk hlt h_ => by have := hS k hlt h_; omega)⟩
theorem SK.next (h : SK w N own v ns f) (hb : Below w.heap.size w w') : SK w' N own v ns f := h.upd (Upd.of_below hb (fun _ => False)) (fun _ _ h_ => h_.elim)
theorem SK.owned (h : SK w N own v ns f) (ho : ∀ k, k < w.heap.size → own' k = own k) : SK w N own' v ns f := by
  obtain ⟨rows, e, hr, hx⟩ := h.row
  refine ⟨rows, e, Kd.R_mono (Kd.R_bound hr) (fun k hk => (ho k hk.2.2.1).trans hk.1), fun i n hi => ?_⟩
  obtain ⟨A, c, h1, h2⟩ := hx i n hi
  exact ⟨A, c, h1, h2.own (fun k hk hlt => (ho k hlt).trans hk)⟩
theorem SK.slice (h : SK w N own v ns f) : ∃ A c, v = .slice A ns.length c ∧ ns.length ≤ c := by
  obtain ⟨rows, e, hr, hx⟩ := h.row
  obtain ⟨A, c, rfl, hc, _⟩ := Kd.R_reads hr
  exact ⟨A, c, by rw [e], by omega⟩
/-- The cell of number i, and its byte string. -/
theorem SK.get {A : Option Addr} {c : Nat} (h : SK w N own (.slice A ns.length c) ns f) {i : Nat} (hi : i < ns.length) : ∃ ad B b, A = some ad ∧ w.cell? (ad.add i) = some (.slice B ns[i] b) ∧ ns[i] ≤ b ∧ Mk w (.slice B ns[i] b) ns[i] N (fun k => own k = 3 + i) (f i) (mkb i) := by
  obtain ⟨rows, e, hr, hx⟩ := h.row
  obtain ⟨_, _, hC⟩ := Kd.R_reads' hr
  obtain ⟨B, b, h1, h2⟩ := hx i ns[i] (List.getElem?_eq_getElem hi)
  obtain ⟨ad, ha, hcell⟩ := hC.2.2 (by omega)
  obtain ⟨cs, hcl, ⟨rfl, _, _⟩, hcc⟩ := hcell i _ h1
  have hc0 := hcc 0 (.slice B ns[i] b) rfl
  rw [show i * (Kd.raw 1).sz + 0 = i from by show i * 1 + 0 = i; omega] at hc0
  refine ⟨ad, B, b, ha, hc0, ?_, h2⟩
  rcases h2 with ⟨h0, e⟩ | ⟨g, cap, cur, e, _, _, _, h3, _⟩
  · rw [h0]; exact Nat.zero_le _
  · injection e with _ _ e3; omega
theorem SK.fn {f' : Nat → Nat} (h : SK w N own v ns f) (hf : ∀ i, i < ns.length → f i = f' i) : SK w N own v ns f' := by
  obtain ⟨rows, e, hr, hx⟩ := h.row
  refine ⟨rows, e, hr, fun i n hi => ?_⟩
  obtain ⟨A, c, h1, h2⟩ := hx i n hi
  exact ⟨A, c, h1, by rw [← hf i (List.getElem?_eq_some_iff.1 hi).1]; exact h2⟩
/-- The next byte of number i is marked. -/
theorem SK.mark {A : Option Addr} {c : Nat} (h : SK w N own (.slice A ns.length c) ns f) {i : Nat} (hi : i < ns.length) (hj : f i < ns[i]) : ∃ ad b g u, A = some ad ∧ w.cell? (ad.add i) = some (.slice (some ⟨g, 0, none⟩) ns[i] b) ∧ (⟨g, 0, none⟩ : Addr).add (f i) = ⟨g, f i, none⟩ ∧ own g = 3 + i ∧ N ≤ g ∧ w.cell? ⟨g, f i, none⟩ = some u ∧ w.frozen? ⟨g, f i, none⟩ = false ∧
    SK (w.setCell ⟨g, f i, none⟩ (.int .u8 (mkb i))) N own (.slice A ns.length c) ns (fun q => if q = i then f i + 1 else f q) := by
  obtain ⟨ad, B, b, ha, hcell, _, hM⟩ := h.get hi
  obtain ⟨g, u, rfl, e1, ho, hN, hc, hf, ⟨cells, hblk⟩, hM2⟩ := mk_at hM hj
  refine ⟨ad, b, g, u, ha, hcell, e1, ho, hN, hc, hf, ?_⟩
  have hU : Upd w (w.setCell ⟨g, f i, none⟩ (.int .u8 (mkb i))) (fun k => k = g) := Upd.setCell (S := fun k => k = g) (Upd.refl w _) (p := ⟨g, f i, none⟩) (fun _ => rfl) _
  obtain ⟨rows, e, hr, hx⟩ := h.row
  refine ⟨rows, e, Kd.R_step hr (fun k hk hlt => hU.block k hlt (fun h_ => by subst h_; omega)), fun q n hq => ?_⟩
  obtain ⟨B2, b2, h1, h2⟩ := hx q n hq
  by_cases hqi : q = i
  · subst hqi
    rw [if_pos rfl]
    obtain ⟨_, _, hC⟩ := Kd.R_reads' hr
    obtain ⟨ad', ha', hcell'⟩ := hC.2.2 (by omega)
    obtain ⟨cs, hcl, ⟨rfl, _, _⟩, hcc⟩ := hcell' q _ h1
    have hc0 := hcc 0 (.slice B2 n b2) rfl
    rw [show q * (Kd.raw 1).sz + 0 = q from by show q * 1 + 0 = q; omega] at hc0
    rw [ha] at ha'
    injection ha' with ha'
    subst ha'
    rw [hcell] at hc0
    injection hc0 with hc0
    injection hc0 with z1 z2 z3
    subst z1 z2 z3
    exact ⟨_, _, h1, hM2⟩
  · rw [if_neg hqi]
    exact ⟨B2, b2, h1, h2.upd' hU (fun k hk _ h_ => by subst h_; omega)⟩
/-- The cell of number i, its byte string, and how a change of it is put back. -/
theorem SK.get2 {A : Option Addr} {c : Nat} (h : SK w N own (.slice A ns.length c) ns f) {i : Nat} (hi : i < ns.length) : ∃ ad B b, A = some ad ∧ w.cell? (ad.add i) = some (.slice B ns[i] b) ∧ ns[i] ≤ b ∧ Mk w (.slice B ns[i] b) ns[i] N (fun k => own k = 3 + i) (f i) (mkb i) ∧
    ∀ (w' : World) (m : Nat), Upd w w' (fun k => own k = 3 + i) → Mk w' (.slice B ns[i] b) ns[i] N (fun k => own k = 3 + i) m (mkb i) → SK w' N own (.slice A ns.length c) ns (fun q => if q = i then m else f q) := by
  obtain ⟨rows, e, hr, hx⟩ := h.row
  obtain ⟨_, _, hC⟩ := Kd.R_reads' hr
  obtain ⟨B, b, h1, h2⟩ := hx i ns[i] (List.getElem?_eq_getElem hi)
  obtain ⟨ad, ha, hcell⟩ := hC.2.2 (by omega)
  obtain ⟨cs, hcl, ⟨rfl, _, _⟩, hcc⟩ := hcell i _ h1
  have hc0 := hcc 0 (.slice B ns[i] b) rfl
  rw [show i * (Kd.raw 1).sz + 0 = i from by show i * 1 + 0 = i; omega] at hc0
  refine ⟨ad, B, b, ha, hc0, ?_, h2, fun w' m hU hM => ⟨rows, e, Kd.R_step hr (fun k hk hlt => hU.block k hlt (by omega)), fun q n hq => ?_⟩⟩
  · rcases h2 with ⟨h0, e⟩ | ⟨g, cap, cur, e, _, _, _, h3, _⟩
    · rw [h0]; exact Nat.zero_le _
    · injection e with _ _ e3; omega
  · by_cases hqi : q = i
    · subst hqi
      rw [if_pos rfl]
      obtain rfl : n = ns[q] := by rw [List.getElem?_eq_getElem hi] at hq; exact (Option.some.inj hq).symm
      exact ⟨B, b, h1, hM⟩
    · rw [if_neg hqi]
      obtain ⟨B2, b2, h3, h4⟩ := hx q n hq
      exact ⟨B2, b2, h3, h4.upd' hU (fun k hk _ h_ => by omega)⟩
/-- The byte strings, full of their marks. -/
def full (ns : List Nat) : List (List Int) := (List.range ns.length).map (fun i => List.replicate (ns.getD i 0) (mkb i))
theorem full_len (ns : List Nat) : (full ns).length = ns.length := by simp [full]
theorem full_at (ns : List Nat) {i : Nat} (h : i < ns.length) : (full ns)[i]? = some (List.replicate ns[i] (mkb i)) := by simp [full, h]
theorem SK.reads {A : Option Addr} {c : Nat} (h : SK w N own (.slice A ns.length c) ns f) (hf : ∀ (i n : Nat), ns[i]? = some n → f i = n) : Kd.C (Kd.slice 5 By) w A (full ns).length (full ns) := by
  obtain ⟨rows, e, hr, hx⟩ := h.row
  obtain ⟨_, _, hC⟩ := Kd.R_reads' hr
  refine ⟨rfl, by rw [full_len]; have := hC.2.1; omega, fun hp => ?_⟩
  rw [full_len] at hp
  obtain ⟨ad, ha, hcell⟩ := hC.2.2 (by omega)
  refine ⟨ad, ha, fun j q hj => ?_⟩
  have hjl : j < ns.length := by have := (List.getElem?_eq_some_iff.1 hj).1; rw [full_len] at this; exact this
  rw [full_at ns hjl] at hj
  obtain rfl := Option.some.inj hj
  obtain ⟨B, b, h1, h2⟩ := hx j ns[j] (List.getElem?_eq_getElem hjl)
  obtain ⟨cs, hcl, ⟨rfl, _, _⟩, hcc⟩ := hcell j _ h1
  rw [hf j ns[j] (List.getElem?_eq_getElem hjl)] at h2
  obtain ⟨hF, hb⟩ := h2.reads
  refine ⟨_, hcl, ⟨B, b, ?_, ?_, ?_⟩, hcc⟩
  · rw [List.length_replicate]
  · rw [List.length_replicate]; exact hb
  · rw [List.length_replicate]; exact f_now hF
end
/-- What is laid behind the byte string of that number. -/
def trl (i : Nat) : List Int := List.replicate 64 (((i : Int) + 100) % 256)
/-- The longer ones: the first j. -/
structure LR (w : World) (N : Nat) (own : Nat → Nat) (v : Value) (ns : List Nat) (j : Nat) : Prop where
  row : ∃ rows : List (List Value), rows.length = j ∧ Kd.R (Kd.raw 1) 23 w N (fun k => own k = 2) v rows ∧ ∀ (i n : Nat), i < j → ns[i]? = some n → ∃ A c, rows[i]? = some ([.slice A (n + 64) c] : List Value) ∧ n + 64 ≤ c ∧ Kd.F By w (fun k => own k = 3 + i) A (n + 64) (List.replicate n (mkb i) ++ trl i)
section
variable {w w' : World} {N : Nat} {own own' : Nat → Nat} {v : Value} {ns : List Nat} {j : Nat} {S : Nat → Prop}
theorem LR.nil (w : World) (N : Nat) (own : Nat → Nat) (ns : List Nat) : LR w N own (.slice none 0 0) ns 0 := ⟨[], rfl, Kd.R_nil _ _ _ _ _, fun i n hi => by omega⟩
theorem LR.upd (h : LR w N own v ns j) (hu : Upd w w' S) (hS : ∀ k, k < w.heap.size → S k → own k < 2 ∨ 3 + j ≤ own k) : LR w' N own v ns j := by
  obtain ⟨rows, e, hr, hx⟩ := h.row
  refine ⟨rows, e, Kd.R_step hr (fun k hk hlt => hu.block k hlt (fun h_ => by have := hS k hlt h_; omega)), fun i n hi hn => ?_⟩
  obtain ⟨A, c, h1, h2, h3⟩ := hx i n hi hn
  exact ⟨A, c, h1, h2, f_upd h3 hu (fun k hk hlt h_ => by have := hS k hlt h_; omega)⟩
theorem LR.next (h : LR w N own v ns j) (hb : Below w.heap.size w w') : LR w' N own v ns j := h.upd (Upd.of_below hb (fun _ => False)) (fun _ _ h_ => h_.elim)
theorem LR.owned (h : LR w N own v ns j) (ho : ∀ k, k < w.heap.size → own' k = own k) : LR w N own' v ns j := by
  obtain ⟨rows, e, hr, hx⟩ := h.row
  refine ⟨rows, e, Kd.R_mono (Kd.R_bound hr) (fun k hk => (ho k hk.2.2.1).trans hk.1), fun i n hi hn => ?_⟩
  obtain ⟨A, c, h1, h2, h3⟩ := hx i n hi hn
  exact ⟨A, c, h1, h2, f_bd h3 (fun k hk hlt => (ho k hlt).trans hk)⟩
theorem LR.slice (h : LR w N own v ns j) : ∃ A c, v = .slice A j c ∧ j ≤ c := by
  obtain ⟨rows, e, hr, hx⟩ := h.row
  obtain ⟨A, c, rfl, hc, _⟩ := Kd.R_reads hr
  exact ⟨A, c, by rw [e], by omega⟩
theorem LR.get {A : Option Addr} {c : Nat} (h : LR w N own (.slice A j c) ns j) {i : Nat} (hi : i < j) (hn : i < ns.length) : ∃ ad B b, A = some ad ∧ w.cell? (ad.add i) = some (.slice B (ns[i] + 64) b) ∧ ns[i] + 64 ≤ b ∧ Kd.C By w B (ns[i] + 64) (List.replicate ns[i] (mkb i) ++ trl i) := by
  obtain ⟨rows, e, hr, hx⟩ := h.row
  obtain ⟨_, _, hC⟩ := Kd.R_reads' hr
  obtain ⟨B, b, h1, h2, h3⟩ := hx i ns[i] hi (List.getElem?_eq_getElem hn)
  obtain ⟨ad, ha, hcell⟩ := hC.2.2 (by omega)
  obtain ⟨cs, hcl, ⟨rfl, _, _⟩, hcc⟩ := hcell i _ h1
  have hc0 := hcc 0 (.slice B (ns[i] + 64) b) rfl
  rw [show i * (Kd.raw 1).sz + 0 = i from by show i * 1 + 0 = i; omega] at hc0
  exact ⟨ad, B, b, ha, hc0, h2, f_now h3⟩
end
/-- A round of the second loop: a tail laid behind number j, the longer one kept. -/
theorem told_round {w wr w6 w7 w9 : World} {N n j c' bl : Nat} {own own' : Nat → Nat} {v v9 : Value} {ns : List Nat} {f : Nat → Nat} {Bl A' : Option Addr} {lrows : List (List Value)}
    (H7 : Upd w6 w7 (fun k => own' k = 3 + j) → SK w7 N own' v ns f) (hb6 : Below wr.heap.size wr w6) (hU7 : Upd w6 w7 (fun k => own' k = 3 + j)) (hg9 : w7.grownBy w9 (Value.slice Bl j bl).ownBlock)
    (hlr : lrows.length = j) (hR : Kd.R (Kd.raw 1) 23 wr N (fun k => own' k = 2) (.slice Bl j bl) lrows) (hLx : ∀ (i n : Nat), i < j → ns[i]? = some n → ∃ A c, lrows[i]? = some ([.slice A (n + 64) c] : List Value) ∧ n + 64 ≤ c ∧ Kd.F By wr (fun k => own' k = 3 + i) A (n + 64) (List.replicate n (mkb i) ++ trl i))
    (hc7 : n + 64 ≤ c') (hF7 : Kd.F By w7 (fun k => own' k = 3 + j ∨ w6.heap.size ≤ k) A' (n + 64) (List.replicate n (mkb j) ++ trl j)) (hr9 : Kd.R (Kd.raw 1) 23 w9 N (fun k => own' k = 2 ∨ w7.heap.size ≤ k) v9 (lrows ++ [([.slice A' (n + 64) c'] : List Value)]))
    (hn : ns[j]? = some n) (hx : ∀ k, own' k ≠ 0 → k < wr.heap.size) (ho : ∀ k, k < w.heap.size → own' k = own k) (hU : Upd w wr (fun k => 3 ≤ own k)) (h2 : ∀ k, own k ≠ 2) :
    ∃ own'', SK w9 N own'' v ns f ∧ LR w9 N own'' v9 ns (j + 1) ∧ (∀ k, k < w.heap.size → own'' k = own k) ∧ Upd w w9 (fun k => 3 ≤ own k) ∧ (∀ k, own'' k ≠ 0 → k < w9.heap.size) := by
  have hs6 := hb6.size
  have hs7 := hU7.size
  have hU9 : Upd w7 w9 (fun k => own' k = 2) := (Upd.refl w7 _).grown hg9 (fun k hk _ => hR.1 k hk)
  have hs9 := hU9.size
  have hH := H7 hU7
  have hU69 : Upd w6 w9 (fun k => own' k = 3 + j ∨ own' k = 2) := (hU7.mono (fun k _ h => .inl h)).then_ hU9 (fun k _ h => .inr h)
  have hUr9 : Upd wr w9 (fun k => own' k = 3 + j ∨ own' k = 2) := (Upd.of_below hb6 _).then_ hU69 (fun k _ h => h)
  refine ⟨fun k => if k < wr.heap.size then own' k else if k < w7.heap.size then 3 + j else if k < w9.heap.size then 2 else 0, ?_, ⟨lrows ++ [[.slice A' (n + 64) c']], by simp [hlr], ?_, fun i m hi hm => ?_⟩, fun k hk => ?_, hU.then_ hUr9 (fun k hk h => ?_), fun k hk => ?_⟩
  · have h7 := hH.upd hU9 (fun k _ h_ => .inr h_)
    obtain ⟨rows, e, hr, hx2⟩ := h7.row
    refine ⟨rows, e, Kd.R_mono hr (fun k hk => ?_), fun i m hi => ?_⟩
    · rw [if_pos (hx k (by omega))]; exact hk
    · obtain ⟨B, b, q1, q2⟩ := hx2 i m hi
      refine ⟨B, b, q1, q2.own (fun k hk _ => ?_)⟩
      rw [if_pos (hx k (by omega))]; exact hk
  · refine Kd.R_mono (Kd.R_bound hr9) (fun k hk => ?_)
    rcases hk.1 with h_ | h_
    · rw [if_pos (hx k (by omega))]; exact h_
    · rw [if_neg (by omega), if_neg (by omega), if_pos hk.2.2.1]
  · by_cases hij : i < j
    · obtain ⟨B, b, q1, q2, q3⟩ := hLx i m hij hm
      refine ⟨B, b, by rw [List.getElem?_append_left (by omega)]; exact q1, q2, f_mono (f_upd q3 hUr9 (fun k hk _ h_ => by omega)) (fun k hk => ?_)⟩
      rw [if_pos (hx k (by omega))]; exact hk
    · obtain rfl : i = j := by omega
      obtain rfl : m = n := by rw [hn] at hm; exact (Option.some.inj hm).symm
      refine ⟨A', c', by rw [List.getElem?_append_right (by omega), hlr, Nat.sub_self]; rfl, hc7, f_bd (f_upd (S := fun k => own' k = 2) (f_bd hF7 (ok' := fun k => (own' k = 3 + i ∨ w6.heap.size ≤ k) ∧ k < w7.heap.size) (fun k hk hlt => ⟨hk, hlt⟩)) hU9 (fun k hk _ h_ => ?_)) (fun k hk hlt => ?_)⟩
      · rcases hk.1 with h3 | h3
        · omega
        · have := hx k (by omega); omega
      · rcases hk.1 with h3 | h3
        · rw [if_pos (hx k (by omega))]; exact h3
        · by_cases hkr : k < wr.heap.size
          · omega
          · rw [if_neg hkr, if_pos hk.2]
  · dsimp only; rw [if_pos (by have := hU.size; omega)]; exact ho k hk
  · rcases h with h | h
    · rw [ho k hk] at h; omega
    · rw [ho k hk] at h; exact absurd h (h2 k)
  · by_cases a1 : k < wr.heap.size
    · omega
    · by_cases a2 : k < w7.heap.size
      · omega
      · by_cases a3 : k < w9.heap.size
        · exact a3
        · dsimp only at hk; rw [if_neg a1, if_neg a2, if_neg a3] at hk; exact absurd rfl hk
end Go.Proofs.YtgfjmpnlkjocaaaDoor.J
namespace Go.Proofs.YtgfjmpnlkjocaaaDoor.J
open Go.RowKit Go.Proofs.YtgfjmpnlkjocaaaDoorW.PrintWords Go.Proofs.YtgfjmpnlkjocaaaDoorW.PrintLast Go.Proofs.YtgfjmpnlkjocaaaDoorW.PrintMore
attribute [local go_sem] max2_int min2_int max_two min_two max_three min_three max_four min_four
set_option linter.unusedVariables false
set_option linter.unusedSimpArgs false
set_option maxRecDepth 100000
theorem trail_loop (i : Nat) (hi : i ≤ 1000000) : ∀ (d j k : Nat), j + d = 64 → d < k → arrearslaw6_trail.l0 k (i : Int) (List.replicate j (((i : Int) + 100) % 256)) (j : Int) = some (trl i) := by
  intro d
  induction d with
  | zero =>
    intro j k hj hk
    obtain ⟨k, rfl⟩ : ∃ m, k = m + 1 := ⟨k - 1, by omega⟩
    obtain rfl : j = 64 := by omega
    rw [arrearslaw6_trail.l0, if_neg (by omega)]; rfl
  | succ d ih =>
    intro j k hj hk
    obtain ⟨k, rfl⟩ : ∃ m, k = m + 1 := ⟨k - 1, by omega⟩
    rw [arrearslaw6_trail.l0, if_pos (by omega), if_pos (by simp; omega), show wrap64 ((i : Int) + 100) = (i : Int) + 100 by unfold wrap64; omega, show wrap64 ((j : Int) + 1) = ((j + 1 : Nat) : Int) by unfold wrap64; omega, ← List.replicate_succ']
    exact ih (j + 1) k (by omega) (by omega)
theorem trail_is (i : Nat) (hi : i ≤ 1000000) : arrearslaw6_trail.f 65 (i : Int) = some (trl i) := by
  unfold arrearslaw6_trail.f
  exact trail_loop i hi 64 0 65 (by omega) (by omega)
theorem trl_len (i : Nat) : (trl i).length = 64 := by simp [trl]
/-- Is each of these byte strings full of its own mark? -/
theorem still_in (xs : List (List Int)) (n i : Nat) (hn : xs.length ≤ 1000000) (hi : i < xs.length) (hx : xs[i] = List.replicate n (mkb i)) (hnn : n ≤ 4611686018427387904) (k : Nat) (hk : arrearslaw6_still.l0 k xs (((i + 1 : Nat)) : Int) = some true) : ∀ (d j : Nat), j + d = n → arrearslaw6_still.l1 (d + 1 + k) xs (i : Int) (j : Int) = some true := by
  have hr : rd_L1 xs (i : Int) = List.replicate n (mkb i) := by unfold rd_L1; simp [hi, hx]
  intro d
  induction d with
  | zero =>
    intro j hj
    rw [show 0 + 1 + k = k + 1 by omega, arrearslaw6_still.l1, if_pos (by omega), if_pos (by omega), hr, if_neg (by simp; omega), show wrap64 ((i : Int) + 1) = ((i + 1 : Nat) : Int) by unfold wrap64; omega]
    exact hk
  | succ d ih =>
    intro j hj
    rw [show d + 1 + 1 + k = (d + 1 + k) + 1 by omega, arrearslaw6_still.l1, if_pos (by omega), if_pos (by omega), hr, if_pos (by simp; omega), if_pos (by omega), show rd (List.replicate n (mkb i)) (j : Int) = mkb i by unfold rd; simp [show j < n by omega], if_pos (by rfl), show wrap64 ((j : Int) + 1) = ((j + 1 : Nat) : Int) by unfold wrap64; omega]
    exact ih (j + 1) (by omega)
theorem still_full (ns : List Nat) (hn : ns.length ≤ 1000000) (hb : ∀ n ∈ ns, n ≤ 4611686018427387904) : ∃ k, arrearslaw6_still.f k (full ns) = some true := by
  have main : ∀ d i : Nat, i + d = ns.length → ∃ k, arrearslaw6_still.l0 k (full ns) (i : Int) = some true := by
    intro d
    induction d with
    | zero => intro i hi; exact ⟨1, by rw [arrearslaw6_still.l0, if_neg (by rw [full_len]; omega)]⟩
    | succ d ih =>
      intro i hi
      obtain ⟨k, hk⟩ := ih (i + 1) (by omega)
      have hlt : i < ns.length := by omega
      have hx : (full ns)[i]'(by rw [full_len]; exact hlt) = List.replicate ns[i] (mkb i) := by
        have := full_at ns hlt
        rw [List.getElem?_eq_getElem (by rw [full_len]; exact hlt)] at this
        exact Option.some.inj this
      refine ⟨ns[i] + 1 + k + 1, ?_⟩
      rw [arrearslaw6_still.l0, if_pos (by rw [full_len]; omega)]
      exact still_in (full ns) ns[i] i (by rw [full_len]; exact hn) (by rw [full_len]; exact hlt) hx (hb _ (List.getElem_mem hlt)) k hk ns[i] 0 (by omega)
  exact main ns.length 0 (by omega)
theorem still_calls {w : World} {N : Nat} {own : Nat → Nat} {v : Value} {ns : List Nat} {f : Nat → Nat} (h : SK w N own v ns f) (hf : ∀ (i n : Nat), ns[i]? = some n → f i = n) (hn : ns.length ≤ 1000000) (hb : ∀ n ∈ ns, n ≤ 4611686018427387904) :
    Calls Tryd.prog 33 #[v] w fun e w' => e = .returned (.bool true) ∧ Drawn0 w w' := by
  obtain ⟨A, c, rfl, hc⟩ := h.slice
  obtain ⟨k, hk⟩ := still_full ns hn hb
  have := arrearslaw6_still.calls k A c (full ns) true w (h.reads hf) (by rw [full_len]; exact hc) hk
  rwa [full_len] at this
theorem same_t {w : World} {A B : Option Addr} {c b n1 n2 : Nat} {l : List Int} (h1 : n1 = l.length) (h2 : n2 = l.length) (h : Kd.C By w A l.length l) (hc : l.length ≤ c) (h3 : Kd.C By w B l.length l) (hb : l.length ≤ b) (hl : l.length ≤ 10000000) :
    Calls Tryd.prog 18 #[.slice A n1 c, .slice B n2 b] w fun e w' => e = .returned (.bool true) ∧ ∃ m, w' = w.drewN m := by
  subst h1 h2
  exact (arrearslaw6_same.calls (l.length + 1) A c l B b l true w h hc h3 hb (same_self l hl _ (by omega))).mono fun e w' ⟨he, nd, hd⟩ => ⟨he, nd, hd⟩
set_option maxHeartbeats 4000000 in
theorem told_calls {w : World} {N : Nat} {own : Nat → Nat} {v : Value} {ns : List Nat} (h : SK w N own v ns (fun _ => 0)) (hN : N ≤ w.heap.size) (hl : ns.length ≤ 1000) (hb : ∀ n ∈ ns, n ≤ 70368744177000) (h2 : ∀ k, own k ≠ 2) (h0 : ∀ k, w.heap.size ≤ k → own k = 0) :
    Calls Tryd.prog 32 #[v] w fun e w' => ∃ own', e = .returned (.bool true) ∧ SK w' N own' v ns (fun i => ns.getD i 0) ∧ Upd w w' (fun k => 3 ≤ own k) ∧ (∀ k, k < w.heap.size → own' k = own k) := by
  obtain ⟨A, c, rfl, hc⟩ := h.slice
  have H := Aside0.mk h
  have HN := Aside0.mk hN
  have HL := Aside0.mk hl
  have HB := Aside0.mk hb
  have H2 := Aside0.mk h2
  have HZ := Aside0.mk h0
  have HU := Aside0.mk (Upd.refl w (fun k => 3 ≤ own k))
  have hli : (ns.length : Int) ≤ 1000 := by omega
  clear h hN hl hb h2 h0
  go_enter Tryd.func32, Tryd.ntmps32
  go_upto_block 0 with fail
  go_cut [] (fun wx => Aside0 (SK wx N own (.slice A ns.length c) ns (fun i => ns.getD i 0)) ∧ Aside0 (Upd w wx (fun k => 3 ≤ own k)))
  case first =>
    go_wp2_with fail
    go_loopw [3] (fun i wr => ∃ j : Nat, j ≤ ns.length ∧ i = .int .i64 (j : Int) ∧ Aside0 (SK wr N own (.slice A ns.length c) ns (fun q => if q < j then ns.getD q 0 else 0)) ∧ Aside0 (Upd w wr (fun k => 3 ≤ own k))) (fun i _ => ns.length - (intOf i).toNat)
    case atStart => exact ⟨0, by omega, rfl, ⟨H.out.fn (fun i hi => by simp)⟩, HU⟩
    case round =>
      clear H HU
      obtain ⟨j, hj, rfl, H, HU⟩ := hrel
      by_cases hjn : j < ns.length
      · have hnb : ns[j] ≤ 70368744177000 := HB.out _ (List.getElem_mem hjn)
        obtain ⟨n, hn⟩ : ∃ n, n = ns[j] := ⟨_, rfl⟩
        have HNJ := Aside0.mk hn
        have hnb : n ≤ 70368744177000 := by omega
        clear hn
        go_wp2_with fail
        go_loopw [4] (fun i wr => ∃ m : Nat, m ≤ n ∧ i = .int .i64 (m : Int) ∧ Aside0 (SK wr N own (.slice A ns.length c) ns (fun q => if q = j then m else if q < j then ns.getD q 0 else 0)) ∧ Aside0 (Upd w wr (fun k => 3 ≤ own k))) (fun i _ => n - (intOf i).toNat)
        case atStart => exact ⟨0, by omega, rfl, ⟨H.out.fn (fun i hi => by by_cases h_ : i = j <;> simp [h_])⟩, HU⟩
        case round =>
          clear H HU
          obtain ⟨m, hm, rfl, H, HU⟩ := hrel
          by_cases hmn : m < n
          · obtain ⟨ad, b, g, u, rfl, x0, e1, ho, hNg, x1, hf, hS⟩ := H.out.mark hjn (by rw [if_pos rfl, ← HNJ.out]; exact hmn)
            rw [← HNJ.out] at x0
            simp only [if_pos] at e1 x1 hf hS
            have HS := Aside0.mk hS
            have HO := Aside0.mk ho
            clear hS ho hNg
            have hidx : (j : Int) < (ns.length : Int) := by omega
            go_wp2_with fail
            go_roundw
            case rel => exact ⟨m + 1, by omega, by go_num, ⟨HS.out.fn (fun i hi => by by_cases h_ : i = j <;> simp [h_])⟩, ⟨HU.out.setCell (fun _ => by have := HO.out; dsimp only; omega) _⟩⟩
            case measure => simp [intOf]; omega
          · obtain rfl : m = n := by omega
            obtain ⟨ad, B, b, rfl, x0, hB, _⟩ := H.out.get hjn
            rw [← HNJ.out] at x0 hB
            have hidx : (j : Int) < (ns.length : Int) := by omega
            go_wp2_with fail
            go_roundw
            case rel => exact ⟨j + 1, by omega, by go_num, ⟨H.out.fn (fun i hi => by
              by_cases h_ : i = j
              · subst h_; rw [if_pos rfl, if_pos (by omega), HNJ.out]; simp [hjn]
              · rw [if_neg h_]; by_cases h3 : i < j
                · rw [if_pos h3, if_pos (by omega)]
                · rw [if_neg h3, if_neg (by omega)])⟩, HU⟩
            case measure => simp [intOf]; omega
      · obtain rfl : j = ns.length := by omega
        go_wp2_with fail
        go_meet
        exact ⟨⟨H.out.fn (fun i hi => if_pos hi)⟩, HU⟩
  case rest =>
  obtain ⟨H1, HU1⟩ := hcut
  clear H HU
  go_upto_block 4 with fail
  go_cut [5] (fun vl wx => ∃ (own' : Nat → Nat) (Bl : Option Addr) (bl : Nat), vl = .slice Bl ns.length bl ∧ Aside0 (SK wx N own' (.slice A ns.length c) ns (fun i => ns.getD i 0)) ∧ Aside0 (LR wx N own' (.slice Bl ns.length bl) ns ns.length) ∧ Aside0 (∀ k, k < w.heap.size → own' k = own k) ∧ Aside0 (Upd w wx (fun k => 3 ≤ own k)))
  case first =>
    go_wp2_with fail
    go_loopw [5, 6] (fun vl i wr => ∃ j : Nat, j ≤ ns.length ∧ i = .int .i64 (j : Int) ∧ ∃ (own' : Nat → Nat) (Bl : Option Addr) (bl : Nat), vl = .slice Bl j bl ∧ Aside0 (SK wr N own' (.slice A ns.length c) ns (fun i => ns.getD i 0)) ∧ Aside0 (LR wr N own' (.slice Bl j bl) ns j) ∧ Aside0 (∀ k, k < w.heap.size → own' k = own k) ∧ Aside0 (Upd w wr (fun k => 3 ≤ own k)) ∧ Aside0 (∀ k, own' k ≠ 0 → k < wr.heap.size)) (fun _ i _ => ns.length - (intOf i).toNat)
    case atStart => exact ⟨0, by omega, rfl, own, none, 0, rfl, H1, ⟨LR.nil _ _ _ _⟩, ⟨fun _ _ => rfl⟩, HU1, ⟨fun k hk => by by_cases h_ : k < w.heap.size; (have := HU1.out.size; omega); exact absurd (HZ.out k (by omega)) hk⟩⟩
    case round =>
      clear H1 HU1
      obtain ⟨j, hj, rfl, own', Bl, bl, rfl, H, HLR_, HO, HU, HX⟩ := hrel
      by_cases hjn : j < ns.length
      · have hnb : ns[j] ≤ 70368744177000 := HB.out _ (List.getElem_mem hjn)
        obtain ⟨ad, B, b, rfl, x0, hB, hM, hP⟩ := H.out.get2 hjn
        obtain ⟨lrows, hll, hlR, hlX⟩ := HLR_.out.row
        have HLL := Aside0.mk hll
        have HLR := Aside0.mk hlR
        have HLX := Aside0.mk hlX
        have HTR := Aside0.mk (trail_is j (by omega))
        have HM0 := Aside0.mk (show Mk wr.drew (.slice B ns[j] b) ns[j] N (fun k => own' k = 3 + j) ns[j] (mkb j) from by have h_ := hM.upd' (Upd.of_below (below_drew1 (Below.refl _ _)) (fun _ => False)) (fun _ _ _ h_ => h_); simpa [hjn] using h_)
        have HNJ := Aside0.mk (show ns[j]? = some ns[j] from List.getElem?_eq_getElem hjn)
        obtain ⟨n, hn⟩ : ∃ n, n = ns[j] := ⟨_, rfl⟩
        rw [← hn] at HM0 HNJ x0 hB hnb hP
        have HP := Aside0.mk hP
        clear hP hll hlR hlX
        have hidx : (j : Int) < (ns.length : Int) := by omega
        clear hn hM
        go_upto_region 12 with fail
        refine start_ (n := 11) (S := fun w' => w'.cell? (ad.add j) = some (.slice B n b)) (ds := [7, 8, 9]) #[false, false, false, false, false, false, false, false, false, false, false] (by kernel_rfl) rfl rfl x0 (fun hHeld => ?_)
        refine pure_ (i := 0) (N := (some 37)) (v := ?_) (a' := ?_) #[true, false, false, false, false, false, false, false, false, false, false] rfl rfl (by kernel_rfl) (fun _ _ _ h => h) (Or.inl ⟨by rfl, ?_⟩) ?_ ?_
        rotate_left
        · intro w'
          go_simp
          with_reducible rfl
        rotate_left
        · simp only [Act.put, List.setIfInBounds_toArray, List.set_cons_zero, List.set_cons_succ, i64_w, i32_w]
          rfl
        refine pure_ (i := 1) (N := (some 38)) (v := ?_) (a' := ?_) #[true, true, false, false, false, false, false, false, false, false, false] rfl rfl (by kernel_rfl) (fun _ _ _ h => h) (Or.inl ⟨by rfl, ?_⟩) ?_ ?_
        rotate_left
        · intro w'
          go_simp
          with_reducible rfl
        rotate_left
        · simp only [Act.put, List.setIfInBounds_toArray, List.set_cons_zero, List.set_cons_succ, i64_w, i32_w]
          rfl
        refine pure_ (i := 2) (N := (some 39)) (v := ?_) (a' := ?_) #[true, true, true, false, false, false, false, false, false, false, false] rfl rfl (by kernel_rfl) (fun _ _ _ h => h) (Or.inl ⟨by rfl, ?_⟩) ?_ ?_
        rotate_left
        · intro w'
          go_simp
          with_reducible rfl
        rotate_left
        · simp only [Act.put, List.setIfInBounds_toArray, List.set_cons_zero, List.set_cons_succ, i64_w, i32_w]
          rfl
        refine pure_ (i := 3) (N := (some 40)) (v := ?_) (a' := ?_) #[true, true, true, true, false, false, false, false, false, false, false] rfl rfl (by kernel_rfl) (fun _ _ _ h => h) (Or.inl ⟨by rfl, ?_⟩) ?_ ?_
        rotate_left
        · intro w'
          go_simp
          with_reducible rfl
        rotate_left
        · simp only [Act.put, List.setIfInBounds_toArray, List.set_cons_zero, List.set_cons_succ, i64_w, i32_w]
          rfl
        refine pure_ (i := 5) (N := (some 42)) (v := ?_) (a' := ?_) #[true, true, true, true, false, true, false, false, false, false, false] rfl rfl (by kernel_rfl) (fun _ _ _ h => h) (Or.inl ⟨by rfl, ?_⟩) ?_ ?_
        rotate_left
        · intro w'
          go_simp
          with_reducible rfl
        rotate_left
        · simp only [Act.put, List.setIfInBounds_toArray, List.set_cons_zero, List.set_cons_succ, i64_w, i32_w]
          rfl
        refine take_ (i := 4) (N := (some 41)) (v := ?_) (a' := ?_) #[true, true, true, true, true, true, false, false, false, false, false] rfl rfl (by kernel_rfl) (fun _ _ _ h => h) (Or.inl ⟨by rfl, ?_⟩) hHeld ?_ ?_
        rotate_left
        · rintro w' s0
          go_simp
          with_reducible rfl
        rotate_left
        · simp only [Act.put, List.setIfInBounds_toArray, List.set_cons_zero, List.set_cons_succ, i64_w, i32_w]
          rfl
        refine one_ (i := 6) (N := (some 43)) #[true, true, true, true, true, true, true, false, false, false, false] rfl rfl (by kernel_rfl) (by decide) (fun K hK => ?_)
        refine goes_ Tryd.func45 (by kernel_rfl) rfl #[.int .i64 (j : Int)] (by rfl) rfl rfl (by (try simp only [List.map_toArray, List.map_cons, List.map_nil]); first | done | rfl | (simp only [List.length_drop, List.length_take]; rfl)) ?_
        with_reducible refine (arrearslaw6_trail.calls 65 (j : Int) (trl j) _ HTR.out).mono ?_
        rintro e w6 ⟨v6, rfl, hr6, hb6⟩
        refine ⟨_, rfl, ?_⟩
        obtain ⟨A6, c6, rfl, _⟩ := rsl hr6
        have HT := Aside0.mk hr6
        have HB6 := Aside0.mk hb6
        have HM := Aside0.mk (HM0.out.upd' (Upd.of_below hb6 (fun _ => False)) (fun _ _ _ h_ => h_))
        have hx6 := (hb6.cell (World.block_lt_of_cell? _ _ hHeld)).trans hHeld
        clear hr6 hb6
        refine hK.out _ _ hx6 (fun hHeld => ?_)
        clear hK K
        refine norm_ (a' := ?_) ?_ ?_
        rotate_left
        · show Act.put _ (some 43) _ = _
          simp only [Act.put, List.setIfInBounds_toArray, List.set_cons_zero, List.set_cons_succ, i64_w, i32_w]
          rfl
        refine last_ (i := 7) (N := (some 44)) #[true, true, true, true, true, true, true, true, false, false, false] rfl rfl (by kernel_rfl) (by decide) (fun K hK => ?_)
        refine append_tail_step (o := fun k => own' k = 3 + j) (by rfl) (.tmp 41) (.tmp 43) (by rfl) (by rfl) (by rfl) HM.out HT.out (by omega) (by rw [trl_len]; omega) ?_
        intro A' c' w7 hc7 hF7 hM7 hU7
        rw [trl_len] at hc7 hF7 ⊢
        have HC7 := Aside0.mk hc7
        have HF7 := Aside0.mk hF7
        have HU7 := Aside0.mk hU7
        have HM7 := Aside0.mk hM7
        clear hc7 hF7 hM7 hU7
        refine hK.out _ _ ?_
        clear hK K
        refine norm_ (a' := ?_) ?_ ?_
        rotate_left
        · show Act.put _ (some 44) _ = _
          simp only [Act.put, List.setIfInBounds_toArray, List.set_cons_zero, List.set_cons_succ, i64_w, i32_w]
          rfl
        refine last_ (i := 8) (N := (some 45)) #[true, true, true, true, true, true, true, true, true, false, false] rfl rfl (by kernel_rfl) (by decide) (fun K hK => ?_)
        refine value_ (v := .slice (some ⟨w7.heap.size, 0, none⟩) 1 1) (w1 := w7.alloc (.cells #[.slice A' (n + 64) c'] 23)) (by rfl) rfl (by first | (go_simp; done) | (go_simp; rfl)) ?_
        refine hK.out _ _ ?_
        clear hK K
        refine norm_ (a' := ?_) ?_ ?_
        rotate_left
        · show Act.put _ (some 45) _ = _
          simp only [Act.put, List.setIfInBounds_toArray, List.set_cons_zero, List.set_cons_succ, i64_w, i32_w]
          rfl
        refine last_ (i := 9) (N := (some 46)) #[true, true, true, true, true, true, true, true, true, true, false] rfl rfl (by kernel_rfl) (by decide) (fun K hK => ?_)
        refine Kd.R_append_step (Kd.raw 1) (w0 := w7) N (by rfl) (.tmp 37) (.tmp 45) 30 23 (.slice none 0 0) 24 rfl Tryd.underlying30 info23 rfl (by decide) (by decide) (.slice Bl j bl) lrows [.slice A' (n + 64) c'] [.slice A' (n + 64) c'] (fun k => own' k = 2 ∨ w7.heap.size ≤ k) (fun _ => False) (by rfl) (by rfl) ⟨rfl, rfl, fun u hu => by simp at hu; subst hu; rfl⟩ (fun _ hk => hk.elim) (fun _ hk => .inr hk) (Kd.R_mono (Kd.R_step (Kd.R_below HLR.out (below_drew1_ HB6.out)) (fun k hk hlt => HU7.out.block k hlt (by have hk : own' k = 2 := hk; omega))) (fun k hk => .inl hk)) (Below.refl _ _) (by have := HU7.out.size; have := (below_drew1_ HB6.out).size; have := HU.out.size; have := HN.out; omega) (by rw [HLL.out]; omega) ?_
        intro v9 w9 hr9 hb9 hg9 hat9
        have HR9 := Aside0.mk hr9
        have HG9 := Aside0.mk hg9
        obtain ⟨A9, c9, rfl, hc9⟩ := rsl hr9
        have HC9 := Aside0.mk (show (lrows ++ [([.slice A' (n + 64) c'] : List Value)]).length = j + 1 by rw [List.length_append, HLL.out]; rfl)
        rw [HC9.out] at HR9 ⊢
        clear hr9 hb9 hg9 hat9 hc9
        refine hK.out _ _ ?_
        clear hK K
        refine norm_ (a' := ?_) ?_ ?_
        rotate_left
        · show Act.put _ (some 46) _ = _
          simp only [Act.put, List.setIfInBounds_toArray, List.set_cons_zero, List.set_cons_succ, i64_w, i32_w]
          rfl
        refine pure_ (i := 10) (N := (some 5)) (v := ?_) (a' := ?_) #[true, true, true, true, true, true, true, true, true, true, true] rfl rfl (by kernel_rfl) (fun _ _ _ h => h) (Or.inl ⟨by rfl, ?_⟩) ?_ ?_
        rotate_left
        · intro w'
          go_simp
          with_reducible rfl
        rotate_left
        · simp only [Act.put, List.setIfInBounds_toArray, List.set_cons_zero, List.set_cons_succ, i64_w, i32_w]
          rfl
        refine done_ (by kernel_rfl) ?_
        go_wp2_with fail
        obtain ⟨o2, q1, q2, q3, q4, q5⟩ := told_round (fun h_ => HP.out _ _ ((Upd.of_below (below_drew1_ HB6.out) _).then_ h_ (fun _ _ h_ => h_)) HM7.out) (below_drew1_ HB6.out) HU7.out HG9.out HLL.out HLR.out HLX.out HC7.out HF7.out HR9.out HNJ.out HX.out HO.out HU.out H2.out
        go_roundw
        case rel => exact ⟨j + 1, by omega, by go_num, o2, A9, c9, rfl, ⟨q1.fn (fun i hi => by by_cases h_ : i = j <;> simp [h_, HNJ.out])⟩, ⟨q2⟩, ⟨q3⟩, ⟨q4⟩, ⟨q5⟩⟩
        case measure => simp [intOf]; omega
      · obtain rfl : j = ns.length := by omega
        go_wp2_with fail
        go_meet
        exact ⟨own', Bl, bl, rfl, H, HLR_, HO, HU⟩
  case rest =>
  obtain ⟨own', Bl, bl, rfl, H, HLR_, HO, HU⟩ := hcut
  clear H1 HU1
  go_wp2_with fail
  go_loopw [7] (fun i wr => ∃ j : Nat, j ≤ ns.length ∧ i = .int .i64 (j : Int) ∧ Aside0 (SK wr N own' (.slice A ns.length c) ns (fun i => ns.getD i 0)) ∧ Aside0 (LR wr N own' (.slice Bl ns.length bl) ns ns.length) ∧ Aside0 (Upd w wr (fun k => 3 ≤ own k))) (fun i _ => ns.length - (intOf i).toNat)
  case atStart => exact ⟨0, by omega, rfl, H, HLR_, HU⟩
  case round =>
    clear H HLR_ HU
    obtain ⟨j, hj, rfl, H, HLR_, HU⟩ := hrel
    by_cases hjn : j < ns.length
    · have hnb : ns[j] ≤ 70368744177000 := HB.out _ (List.getElem_mem hjn)
      obtain ⟨ad, B, b, rfl, x0, hB, _⟩ := H.out.get hjn
      obtain ⟨ad2, B2, b2, rfl, x1, hB2, hC2⟩ := HLR_.out.get hjn hjn
      have HTR := Aside0.mk (trail_is j (by omega))
      obtain ⟨n, hn⟩ : ∃ n, n = ns[j] := ⟨_, rfl⟩
      rw [← hn] at x0 x1 hB hB2 hC2 hnb
      have hL_ : (List.replicate n (mkb j) ++ trl j).length = n + 64 := by rw [List.length_append, List.length_replicate, trl_len]
      rw [← hL_] at hC2
      have hC8 := Kd.C_drop (m := n) (c := b2) hC2 (by rw [hL_]; omega) (by rw [hL_]; exact hB2)
      have hl8 : (List.replicate n (mkb j) ++ trl j).drop n = trl j := by rw [List.drop_left' (by simp)]
      rw [hl8] at hC8
      obtain ⟨A8, hA8⟩ : ∃ A8, A8 = (if b2 = n then B2 else B2.map (·.add (n * 1))) := ⟨_, rfl⟩
      obtain ⟨i0_, hi0_, _, hsz, _⟩ := info_parts info5
      have hcut2 := cut_from (P := Tryd.prog) 23 5 .i64 Tryd.underlying23 hi0_ 1 hsz B2 (n + 64) b2 (n : Int) (by omega) (by omega)
      rw [Int.toNat_natCast, ← hA8, show n + 64 - n = (trl j).length by rw [trl_len]; omega] at hcut2
      have HC8 := Aside0.mk (show Kd.C By wr A8 (trl j).length (trl j) from hA8 ▸ hC8)
      have HL8 := Aside0.mk (show (trl j).length ≤ b2 - n by rw [trl_len]; omega)
      have hidx : (j : Int) < (ns.length : Int) := by omega
      clear hn hC2 hC8 hl8 hA8 hi0_ hsz
      go_upto_region 16 with fail
      refine start_ (n := 14) (S := fun w' => w'.cell? (ad2.add j) = some (.slice B2 (n + 64) b2) ∧ w'.cell? (ad.add j) = some (.slice B n b)) (ds := [12]) #[false, false, false, false, false, false, false, false, false, false, false, false, false, false] (by kernel_rfl) rfl rfl ⟨x1, x0⟩ (fun hHeld => ?_)
      refine pure_ (i := 0) (N := (some 53)) (v := ?_) (a' := ?_) #[true, false, false, false, false, false, false, false, false, false, false, false, false, false] rfl rfl (by kernel_rfl) (fun _ _ _ h => h) (Or.inl ⟨by rfl, ?_⟩) ?_ ?_
      rotate_left
      · intro w'
        go_simp
        with_reducible rfl
      rotate_left
      · simp only [Act.put, List.setIfInBounds_toArray, List.set_cons_zero, List.set_cons_succ, i64_w, i32_w]
        rfl
      refine pure_ (i := 1) (N := (some 54)) (v := ?_) (a' := ?_) #[true, true, false, false, false, false, false, false, false, false, false, false, false, false] rfl rfl (by kernel_rfl) (fun _ _ _ h => h) (Or.inl ⟨by rfl, ?_⟩) ?_ ?_
      rotate_left
      · intro w'
        go_simp
        with_reducible rfl
      rotate_left
      · simp only [Act.put, List.setIfInBounds_toArray, List.set_cons_zero, List.set_cons_succ, i64_w, i32_w]
        rfl
      refine pure_ (i := 2) (N := (some 55)) (v := ?_) (a' := ?_) #[true, true, true, false, false, false, false, false, false, false, false, false, false, false] rfl rfl (by kernel_rfl) (fun _ _ _ h => h) (Or.inl ⟨by rfl, ?_⟩) ?_ ?_
      rotate_left
      · intro w'
        go_simp
        with_reducible rfl
      rotate_left
      · simp only [Act.put, List.setIfInBounds_toArray, List.set_cons_zero, List.set_cons_succ, i64_w, i32_w]
        rfl
      refine pure_ (i := 4) (N := (some 57)) (v := ?_) (a' := ?_) #[true, true, true, false, true, false, false, false, false, false, false, false, false, false] rfl rfl (by kernel_rfl) (fun _ _ _ h => h) (Or.inl ⟨by rfl, ?_⟩) ?_ ?_
      rotate_left
      · intro w'
        go_simp
        with_reducible rfl
      rotate_left
      · simp only [Act.put, List.setIfInBounds_toArray, List.set_cons_zero, List.set_cons_succ, i64_w, i32_w]
        rfl
      refine pure_ (i := 5) (N := (some 58)) (v := ?_) (a' := ?_) #[true, true, true, false, true, true, false, false, false, false, false, false, false, false] rfl rfl (by kernel_rfl) (fun _ _ _ h => h) (Or.inl ⟨by rfl, ?_⟩) ?_ ?_
      rotate_left
      · intro w'
        go_simp
        with_reducible rfl
      rotate_left
      · simp only [Act.put, List.setIfInBounds_toArray, List.set_cons_zero, List.set_cons_succ, i64_w, i32_w]
        rfl
      refine pure_ (i := 6) (N := (some 59)) (v := ?_) (a' := ?_) #[true, true, true, false, true, true, true, false, false, false, false, false, false, false] rfl rfl (by kernel_rfl) (fun _ _ _ h => h) (Or.inl ⟨by rfl, ?_⟩) ?_ ?_
      rotate_left
      · intro w'
        go_simp
        with_reducible rfl
      rotate_left
      · simp only [Act.put, List.setIfInBounds_toArray, List.set_cons_zero, List.set_cons_succ, i64_w, i32_w]
        rfl
      refine pure_ (i := 10) (N := (some 63)) (v := ?_) (a' := ?_) #[true, true, true, false, true, true, true, false, false, false, true, false, false, false] rfl rfl (by kernel_rfl) (fun _ _ _ h => h) (Or.inl ⟨by rfl, ?_⟩) ?_ ?_
      rotate_left
      · intro w'
        go_simp
        with_reducible rfl
      rotate_left
      · simp only [Act.put, List.setIfInBounds_toArray, List.set_cons_zero, List.set_cons_succ, i64_w, i32_w]
        rfl
      refine take_ (i := 3) (N := (some 56)) (v := ?_) (a' := ?_) #[true, true, true, true, true, true, true, false, false, false, true, false, false, false] rfl rfl (by kernel_rfl) (fun _ _ _ h => h) (Or.inl ⟨by rfl, ?_⟩) hHeld ?_ ?_
      rotate_left
      · rintro w' ⟨s0, s1⟩
        go_simp
        with_reducible rfl
      rotate_left
      · simp only [Act.put, List.setIfInBounds_toArray, List.set_cons_zero, List.set_cons_succ, i64_w, i32_w]
        rfl
      refine take_ (i := 7) (N := (some 60)) (v := ?_) (a' := ?_) #[true, true, true, true, true, true, true, true, false, false, true, false, false, false] rfl rfl (by kernel_rfl) (fun _ _ _ h => h) (Or.inl ⟨by rfl, ?_⟩) hHeld ?_ ?_
      rotate_left
      · rintro w' ⟨s0, s1⟩
        go_simp
        with_reducible rfl
      rotate_left
      · simp only [Act.put, List.setIfInBounds_toArray, List.set_cons_zero, List.set_cons_succ, i64_w, i32_w]
        rfl
      refine pure_ (i := 8) (N := (some 61)) (v := ?_) (a' := ?_) #[true, true, true, true, true, true, true, true, true, false, true, false, false, false] rfl rfl (by kernel_rfl) (fun _ _ _ h => h) (Or.inl ⟨by rfl, ?_⟩) ?_ ?_
      rotate_left
      · intro w'
        go_simp
        with_reducible rfl
      rotate_left
      · simp only [Act.put, List.setIfInBounds_toArray, List.set_cons_zero, List.set_cons_succ, i64_w, i32_w]
        rfl
      refine pure_ (i := 9) (N := (some 62)) (v := ?_) (a' := ?_) #[true, true, true, true, true, true, true, true, true, true, true, false, false, false] rfl rfl (by kernel_rfl) (fun _ _ _ h => h) (Or.inl ⟨by rfl, ?_⟩) ?_ ?_
      rotate_left
      · intro w'
        go_simp
        with_reducible rfl
      rotate_left
      · simp only [Act.put, List.setIfInBounds_toArray, List.set_cons_zero, List.set_cons_succ, i64_w, i32_w]
        rfl
      refine one_ (i := 11) (N := (some 64)) #[true, true, true, true, true, true, true, true, true, true, true, true, false, false] rfl rfl (by kernel_rfl) (by decide) (fun K hK => ?_)
      refine goes_ Tryd.func45 (by kernel_rfl) rfl #[.int .i64 (j : Int)] (by rfl) rfl rfl (by (try simp only [List.map_toArray, List.map_cons, List.map_nil]); first | done | rfl | (simp only [List.length_drop, List.length_take]; rfl)) ?_
      with_reducible refine (arrearslaw6_trail.calls 65 (j : Int) (trl j) _ HTR.out).mono ?_
      rintro e w6 ⟨v6, rfl, hr6, hb6⟩
      refine ⟨_, rfl, ?_⟩
      obtain ⟨A6, c6, rfl, hc6⟩ := rsl hr6
      have HT := Aside0.mk (Kd.R_reads' hr6).2.2
      have HC6 := Aside0.mk hc6
      have HB6 := Aside0.mk hb6
      have hx6 := (hb6.cell (World.block_lt_of_cell? _ _ hHeld.1)).trans hHeld.1
      have hx7 := (hb6.cell (World.block_lt_of_cell? _ _ hHeld.2)).trans hHeld.2
      clear hr6 hb6 hc6
      refine hK.out _ _ ⟨hx6, hx7⟩ (fun hHeld => ?_)
      clear hK K
      refine norm_ (a' := ?_) ?_ ?_
      rotate_left
      · show Act.put _ (some 64) _ = _
        simp only [Act.put, List.setIfInBounds_toArray, List.set_cons_zero, List.set_cons_succ, i64_w, i32_w]
        rfl
      refine last_ (i := 12) (N := (some 65)) #[true, true, true, true, true, true, true, true, true, true, true, true, true, false] rfl rfl (by kernel_rfl) (by decide) (fun K hK => ?_)
      refine goes_ Tryd.func18 (by kernel_rfl) rfl #[.slice A8 (trl j).length (b2 - n), .slice A6 (trl j).length c6] (by rfl) rfl rfl (by (try simp only [List.map_toArray, List.map_cons, List.map_nil]); first | done | rfl | (simp only [List.length_drop, List.length_take]; rfl)) ?_
      with_reducible refine (same_t rfl rfl (Kd.C_below HC8.out (below_drew1_ HB6.out)) HL8.out HT.out HC6.out (by rw [trl_len]; omega)).mono ?_
      rintro e w7 ⟨rfl, nd, rfl⟩
      refine ⟨_, rfl, ?_⟩
      have HD7 := Aside0.mk (pw_below_drewN (Below.refl w6.heap.size w6) nd)
      refine hK.out _ _ ?_
      clear hK K
      refine norm_ (a' := ?_) ?_ ?_
      rotate_left
      · show Act.put _ (some 65) _ = _
        simp only [Act.put, List.setIfInBounds_toArray, List.set_cons_zero, List.set_cons_succ, i64_w, i32_w]
        rfl
      refine pure_ (i := 13) (N := (some 66)) (v := ?_) (a' := ?_) #[true, true, true, true, true, true, true, true, true, true, true, true, true, true] rfl rfl (by kernel_rfl) (fun _ _ _ h => h) (Or.inl ⟨by rfl, ?_⟩) ?_ ?_
      rotate_left
      · intro w'
        go_simp
        with_reducible rfl
      rotate_left
      · simp only [Act.put, List.setIfInBounds_toArray, List.set_cons_zero, List.set_cons_succ, i64_w, i32_w]
        rfl
      refine done_ (by kernel_rfl) ?_
      have HB7 := Aside0.mk ((below_drew1_ HB6.out).trans (HD7.out.mono (below_drew1_ HB6.out).size))
      go_wp2_with fail
      go_roundw
      case rel => exact ⟨j + 1, by omega, by go_num, ⟨H.out.next HB7.out⟩, ⟨HLR_.out.next HB7.out⟩, ⟨HU.out.then_ (Upd.of_below HB7.out (fun k => 3 ≤ own k)) (fun _ _ h_ => h_)⟩⟩
      case measure => simp [intOf]; omega
    · obtain rfl : j = ns.length := by omega
      go_wp2_with fail
      refine (still_calls H.out (fun i n hi => by obtain ⟨h1, h2⟩ := List.getElem?_eq_some_iff.1 hi; simp [h1, h2]) (by omega) (fun n hn => by have := HB.out n hn; omega)).mono ?_
      rintro e wz ⟨rfl, nd, rfl⟩
      have HD := Aside0.mk (pw_below_drewN (Below.refl wr.heap.size wr) nd)
      go_wp2_with fail
      go_ret
      exact ⟨own', rfl, H.out.next HD.out, HU.out.then_ (Upd.of_below HD.out (fun k => 3 ≤ own k)) (fun _ _ h_ => h_), HO.out⟩
end Go.Proofs.YtgfjmpnlkjocaaaDoor.J
namespace Go.Proofs.YtgfjmpnlkjocaaaDoor.J
open Go.RowKit Go.Proofs.YtgfjmpnlkjocaaaDoorW.PrintWords Go.Proofs.YtgfjmpnlkjocaaaDoorW.PrintLast Go.Proofs.YtgfjmpnlkjocaaaDoorW.PrintMore
set_option linter.unusedVariables false
set_option linter.unusedSimpArgs false
set_option maxRecDepth 100000
/-- The shelf with what its byte strings hold; nothing elder than N is the shelf's. -/
structure SR (w : World) (N : Nat) (own : Nat → Nat) (v : Value) (ls : List (List Int)) : Prop where
  row : ∃ rows : List (List Value), rows.length = ls.length ∧ Kd.R (Kd.raw 1) 23 w N (fun k => own k = 1) v rows ∧ ∀ (i : Nat) (l : List Int), ls[i]? = some l → ∃ A c, rows[i]? = some ([.slice A l.length c] : List Value) ∧ Kd.R By 5 w N (fun k => own k = 3 + i) (.slice A l.length c) l
  lt : ∀ k, own k ≠ 0 → k < w.heap.size
  n2 : ∀ k, own k ≠ 2
section
variable {w w' : World} {N : Nat} {own own' : Nat → Nat} {v : Value} {ls : List (List Int)} {S : Nat → Prop}
theorem SR.nil (w : World) (N : Nat) : SR w N (fun _ => 0) (.slice none 0 0) [] := ⟨⟨[], rfl, Kd.R_nil _ _ _ _ _, fun i l hi => by simp at hi⟩, fun k hk => absurd rfl hk, fun k => by decide⟩
theorem SR.next (h : SR w N own v ls) (hb : Below w.heap.size w w') : SR w' N own v ls := by
  obtain ⟨rows, e, hr, hx⟩ := h.row
  refine ⟨⟨rows, e, Kd.R_step hr (fun k _ hlt => hb.block k hlt), fun i l hi => ?_⟩, fun k hk => Nat.lt_of_lt_of_le (h.lt k hk) hb.size, h.n2⟩
  obtain ⟨A, c, h1, h2⟩ := hx i l hi
  exact ⟨A, c, h1, Kd.R_step h2 (fun k _ hlt => hb.block k hlt)⟩
theorem SR.slice (h : SR w N own v ls) : ∃ A c, v = .slice A ls.length c ∧ ls.length ≤ c := by
  obtain ⟨rows, e, hr, hx⟩ := h.row
  obtain ⟨A, c, rfl, hc⟩ := rsl hr
  exact ⟨A, c, by rw [e], by omega⟩
theorem SR.sk (h : SR w N own v ls) : SK w N own v (ls.map List.length) (fun _ => 0) := by
  obtain ⟨rows, e, hr, hx⟩ := h.row
  refine ⟨rows, by rw [List.length_map]; exact e, hr, fun i n hi => ?_⟩
  rw [List.getElem?_map] at hi
  obtain ⟨l, hl, rfl⟩ := Option.map_eq_some_iff.1 hi
  obtain ⟨A, c, h1, h2⟩ := hx i l hl
  exact ⟨A, c, h1, mk_row h2 _⟩
end
/-- append(out, x): one more on the shelf. -/
theorem sr_append {w : World} {N : Nat} {own : Nat → Nat} {v : Value} {ls : List (List Int)} {ops : Array Oper} {rest : List Oper} {od : Oper} {a : Act} {Q : Exit → Act → World → Prop}
    (hgd : od.guard = none) (s x : Operand) (hop : od.op = Op.call { callee := Callee.builtin Builtin.append, args := #[s, x], argTypes := #[30, 30] })
    {A : Option Addr} {c : Nat} {l : List Int} {okx : Nat → Prop} (hs : a.eval s = v) (hx : a.eval x = .slice (some ⟨w.heap.size, 0, none⟩) 1 1) (h : SR w N own v ls) (hR : Kd.R By 5 w N okx (.slice A l.length c) l) (hok : ∀ k, okx k → own k = 0) (hl : ls.length ≤ 1000000) (hN : N ≤ w.heap.size)
    (hK : ∀ v1 w1 own1, SR w1 N own1 v1 (ls ++ [l]) → Upd w w1 (fun k => own k = 1) → (∀ k, own1 k ≠ 0 → own k ≠ 0 ∨ okx k ∨ w.heap.size ≤ k) → (∀ k, own k ≠ 0 → own1 k = own k) → wpList Tryd.prog ops Q rest (a.put od.dst v1) w1) :
    wpList Tryd.prog ops Q (od :: rest) a (w.alloc (.cells #[.slice A l.length c] 23)) := by
  classical
  obtain ⟨rows, e, hr, hxs⟩ := h.row
  refine Kd.R_append (Kd.raw 1) (w0 := w) N hgd s x 30 23 (.slice none 0 0) 24 hop Tryd.underlying30 info23 rfl (by decide) (by decide) v rows [.slice A l.length c] [.slice A l.length c] (fun k => own k = 1 ∨ w.heap.size ≤ k) (fun _ => False) hs hx ⟨rfl, rfl, fun u hu => by simp at hu; subst hu; rfl⟩ (fun _ hk => hk.elim) (fun _ hk => .inr hk) (Kd.R_mono hr (fun k hk => .inl hk)) (Below.refl _ _) hN (by rw [e]; omega) ?_
  intro v1 w1 hr1 hb1 hg1 hat1
  have hU : Upd w w1 (fun k => own k = 1) := (Upd.refl w _).grown hg1 (fun k hk _ => hr.1 k hk)
  have hsz := hU.size
  refine hK v1 w1 (fun k => if own k ≠ 0 then own k else if okx k ∧ k < w.heap.size then 3 + ls.length else if w.heap.size ≤ k ∧ k < w1.heap.size then 1 else 0) ⟨⟨rows ++ [[.slice A l.length c]], by simp [e], ?_, fun i m hi => ?_⟩, fun k hk => ?_, fun k => ?_⟩ hU (fun k hk => ?_) (fun k hk => if_pos hk)
  · refine Kd.R_mono (Kd.R_bound hr1) (fun k hk => ?_)
    rcases hk.1 with h_ | h_
    · rw [if_pos (by omega)]; exact h_
    · have h0 : own k = 0 := by
        by_cases h0 : own k = 0
        · exact h0
        · have := h.lt k h0; omega
      rw [if_neg (by omega), if_neg (by omega), if_pos ⟨h_, hk.2.2.1⟩]
  · by_cases hil : i < ls.length
    · rw [List.getElem?_append_left hil] at hi
      obtain ⟨B, b, q1, q2⟩ := hxs i m hi
      refine ⟨B, b, by rw [List.getElem?_append_left (by omega)]; exact q1, Kd.R_mono (Kd.R_step q2 (fun k hk hlt => hU.block k hlt (by omega))) (fun k hk => ?_)⟩
      rw [if_pos (by omega)]; exact hk
    · rw [List.getElem?_append_right (by omega)] at hi
      obtain ⟨hi0, rfl⟩ : i - ls.length = 0 ∧ m = l := by
        cases hc : i - ls.length with
        | zero => rw [hc] at hi; simp at hi; exact ⟨rfl, hi.symm⟩
        | succ q => rw [hc] at hi; simp at hi
      refine ⟨A, c, by rw [List.getElem?_append_right (by omega), e, hi0]; rfl, Kd.R_mono (Kd.R_step (Kd.R_bound hR) (fun k hk hlt => hU.block k hlt (by have := hok k hk.1; omega))) (fun k hk => ?_)⟩
      have := hok k hk.1
      rw [if_neg (by omega), if_pos ⟨hk.1, hk.2.2.1⟩]; omega
  · by_cases h1 : own k ≠ 0
    · have := h.lt k h1; omega
    · rw [if_neg h1] at hk
      by_cases h2 : okx k ∧ k < w.heap.size
      · omega
      · rw [if_neg h2] at hk
        by_cases h3 : w.heap.size ≤ k ∧ k < w1.heap.size
        · exact h3.2
        · rw [if_neg h3] at hk; exact absurd rfl hk
  · by_cases h1 : own k ≠ 0
    · rw [if_pos h1]; exact h.n2 k
    · rw [if_neg h1]; split
      · omega
      · split <;> omega
  · by_cases h1 : own k ≠ 0
    · exact .inl h1
    · rw [if_neg h1] at hk
      by_cases h2 : okx k ∧ k < w.heap.size
      · exact .inr (.inl h2.1)
      · rw [if_neg h2] at hk
        by_cases h3 : w.heap.size ≤ k ∧ k < w1.heap.size
        · exact .inr (.inr h3.1)
        · rw [if_neg h3] at hk; exact absurd rfl hk
/-- A shelf's own row, its cells as they are. -/
theorem s_rows {w : World} {N : Nat} {okS : Nat → Prop} {v : Value} {l : List (List Int)} (h : Kd.S (Kd.slice 5 By) 23 w N okS v l) : ∃ (f : Nat → Nat) (rl : List (List Value)), rl.length = l.length ∧ Kd.R (Kd.raw 1) 23 w N okS v rl ∧ ∀ (i : Nat) (x : List Int), l[i]? = some x → ∃ A c, rl[i]? = some ([.slice A x.length c] : List Value) ∧ Kd.R By 5 w N (fun k => okS k ∧ f k = i) (.slice A x.length c) x := by
  obtain ⟨f, h0, inner, hown, hr⟩ := h
  have hl : inner.length = l.length := by have := hr.1; rw [List.length_zipIdx] at this; simpa [Kd.tag, Kd.slice] using this
  have hat : ∀ (i : Nat) (x : List Int), l[i]? = some x → ∃ A c, inner[i]? = some (.slice A x.length c) ∧ Kd.R By 5 w N (fun k => okS k ∧ f k = i) (.slice A x.length c) x := by
    intro i x hi
    obtain ⟨u, hu, hR⟩ := hr.2 i (x, i) (Kd.zip_at hi)
    have hil := (List.getElem?_eq_some_iff.1 hi).1
    have e : (inner.drop (i * 1)).take 1 = [u] := hu
    rw [Nat.mul_one, List.drop_eq_getElem_cons (by omega), List.take_succ_cons, List.take_zero] at e
    injection e with e
    have hR2 : Kd.R By 5 w N (fun k => okS k ∧ f k = i) u x := Kd.R_mono hR (fun k hk => ⟨hk.1.1, hk.2⟩)
    obtain ⟨A, c, rfl, _⟩ := rsl hR2
    exact ⟨A, c, by rw [List.getElem?_eq_getElem (by omega), e], hR2⟩
  refine ⟨f, inner.map (fun u => [u]), by rw [List.length_map]; exact hl, ⟨h0, inner, ?_, ⟨by rw [List.length_map]; show inner.length = inner.length * 1; omega, fun j p hj => ?_⟩⟩, fun i x hi => ?_⟩
  · rw [List.length_zipIdx] at hown; rw [List.length_map, hl]; exact hown
  · rw [List.getElem?_map] at hj
    obtain ⟨u, hu, rfl⟩ := Option.map_eq_some_iff.1 hj
    have hjl := (List.getElem?_eq_some_iff.1 hu).1
    have e : (inner.drop (j * 1)).take 1 = [u] := by
      rw [Nat.mul_one, List.drop_eq_getElem_cons hjl, List.take_succ_cons, List.take_zero]
      rw [List.getElem?_eq_getElem hjl] at hu
      rw [Option.some.inj hu]
    show (inner.drop (j * 1)).take 1 = [u] ∧ ((inner.drop (j * 1)).take 1).length = 1 ∧ _
    obtain ⟨A, c, h1, _⟩ := hat j (l[j]'(by omega)) (List.getElem?_eq_getElem (by omega))
    rw [hu] at h1
    obtain rfl := Option.some.inj h1
    exact ⟨e, by rw [e]; rfl, fun z hz => by rw [show List.take (Kd.raw 1).sz (List.drop (j * (Kd.raw 1).sz) inner) = [.slice A l[j].length c] from e] at hz; simp at hz; subst hz; rfl⟩
  · obtain ⟨A, c, h1, h2⟩ := hat i x hi
    exact ⟨A, c, by rw [List.getElem?_map, h1]; rfl, h2⟩
/-- append(out, l...): another shelf's byte strings, all of them. -/
theorem sr_append_all {w : World} {N : Nat} {own : Nat → Nat} {v : Value} {ls l : List (List Int)} {ops : Array Oper} {rest : List Oper} {od : Oper} {a : Act} {Q : Exit → Act → World → Prop}
    (hgd : od.guard = none) (s x : Operand) (hop : od.op = Op.call { callee := Callee.builtin Builtin.append, args := #[s, x], argTypes := #[30, 30] })
    {A : Option Addr} {c : Nat} {okS : Nat → Prop} (hs : a.eval s = v) (hx : a.eval x = .slice A l.length c) (h : SR w N own v ls) (hS : Kd.S (Kd.slice 5 By) 23 w N okS (.slice A l.length c) l) (hok : ∀ k, okS k → own k = 0) (hl : ls.length + l.length ≤ 1000000) (hN : N ≤ w.heap.size)
    (hK : ∀ v1 w1 own1, SR w1 N own1 v1 (ls ++ l) → Upd w w1 (fun k => own k = 1) → (∀ k, own1 k ≠ 0 → own k ≠ 0 ∨ okS k ∨ w.heap.size ≤ k) → (∀ k, own k ≠ 0 → own1 k = own k) → wpList Tryd.prog ops Q rest (a.put od.dst v1) w1) :
    wpList Tryd.prog ops Q (od :: rest) a w := by
  classical
  obtain ⟨rows, e, hr, hxs⟩ := h.row
  obtain ⟨f, rl, el, hrl, hxl⟩ := s_rows hS
  have hC := (Kd.R_reads' hrl).2.2
  rw [el] at hC
  refine Kd.R_append_rows (Kd.raw 1) (w0 := w) (Rr := (Kd.raw 1).K w) N hgd s x 30 23 (.slice none 0 0) 24 hop Tryd.underlying30 info23 rfl (by decide) (by decide) v rows rl A l.length c (fun k => own k = 1 ∨ w.heap.size ≤ k) (fun _ => False) hs hx (Kd.R_mono hr (fun k hk => .inl hk)) hC (fun _ _ hk => hk) (fun _ hk => hk.elim) (fun _ hk => .inr hk) (Below.refl _ _) hN (by rw [e]; omega) ?_
  intro v1 w1 hr1 hb1 hg1 hat1
  have hU : Upd w w1 (fun k => own k = 1) := (Upd.refl w _).grown hg1 (fun k hk _ => hr.1 k hk)
  have hsz := hU.size
  refine hK v1 w1 (fun k => if own k ≠ 0 then own k else if okS k ∧ k < w.heap.size then 3 + ls.length + f k else if w.heap.size ≤ k ∧ k < w1.heap.size then 1 else 0) ⟨⟨rows ++ rl, by simp [e, el], ?_, fun i m hi => ?_⟩, fun k hk => ?_, fun k => ?_⟩ hU (fun k hk => ?_) (fun k hk => if_pos hk)
  · refine Kd.R_mono (Kd.R_bound hr1) (fun k hk => ?_)
    rcases hk.1 with h_ | h_
    · rw [if_pos (by omega)]; exact h_
    · have h0 : own k = 0 := by
        by_cases h0 : own k = 0
        · exact h0
        · have := h.lt k h0; omega
      rw [if_neg (by omega), if_neg (by omega), if_pos ⟨h_, hk.2.2.1⟩]
  · by_cases hil : i < ls.length
    · rw [List.getElem?_append_left hil] at hi
      obtain ⟨B, b, q1, q2⟩ := hxs i m hi
      refine ⟨B, b, by rw [List.getElem?_append_left (by omega)]; exact q1, Kd.R_mono (Kd.R_step q2 (fun k hk hlt => hU.block k hlt (by omega))) (fun k hk => ?_)⟩
      rw [if_pos (by omega)]; exact hk
    · rw [List.getElem?_append_right (by omega)] at hi
      obtain ⟨B, b, q1, q2⟩ := hxl _ m hi
      refine ⟨B, b, by rw [List.getElem?_append_right (by omega), e]; exact q1, Kd.R_mono (Kd.R_step (Kd.R_bound q2) (fun k hk hlt => hU.block k hlt (by have := hok k hk.1.1; omega))) (fun k hk => ?_)⟩
      have := hok k hk.1.1
      rw [if_neg (by omega), if_pos ⟨hk.1.1, hk.2.2.1⟩]; have := hk.1.2; omega
  · by_cases h1 : own k ≠ 0
    · have := h.lt k h1; omega
    · rw [if_neg h1] at hk
      by_cases h2 : okS k ∧ k < w.heap.size
      · omega
      · rw [if_neg h2] at hk
        by_cases h3 : w.heap.size ≤ k ∧ k < w1.heap.size
        · exact h3.2
        · rw [if_neg h3] at hk; exact absurd rfl hk
  · by_cases h1 : own k ≠ 0
    · rw [if_pos h1]; exact h.n2 k
    · rw [if_neg h1]; split
      · omega
      · split <;> omega
  · by_cases h1 : own k ≠ 0
    · exact .inl h1
    · rw [if_neg h1] at hk
      by_cases h2 : okS k ∧ k < w.heap.size
      · exact .inr (.inl h2.1)
      · rw [if_neg h2] at hk
        by_cases h3 : w.heap.size ≤ k ∧ k < w1.heap.size
        · exact .inr (.inr h3.1)
        · rw [if_neg h3] at hk; exact absurd rfl hk
end Go.Proofs.YtgfjmpnlkjocaaaDoor.J
