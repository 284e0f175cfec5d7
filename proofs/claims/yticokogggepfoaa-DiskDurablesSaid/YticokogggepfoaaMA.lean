/- hold: a short answer is written full, and kept; its parts. No condition. -/
import Derived.Test.YticokogggepfoaaLZ
import Derived.ArgAppend
namespace Go.Proofs.Yticokogggepfoaa.D
open Go.RowKit Go.Proofs.YticokogggepfoaaW.PrintWords Go.Proofs.YticokogggepfoaaW.PrintLast Go.Proofs.YticokogggepfoaaW.PrintMore Go.Proofs.Yticokogggepfoaa.G
attribute [local go_sem] max2_int min2_int max_two min_two max_three min_three max_four min_four
set_option linter.unusedVariables false
set_option linter.unusedSimpArgs false
set_option maxRecDepth 100000
/-- A row of bytes known whole: its block, its room, its first j bytes the mark. -/
def Mk (w : World) (v : Value) (n : Nat) (base : Nat) (o : Nat → Prop) (j : Nat) (mk : Int) : Prop :=
  (n = 0 ∧ v = .slice none 0 0) ∨ ∃ g cap cur, v = .slice (some ⟨g, 0, none⟩) n cap ∧ base ≤ g ∧ o g ∧ w.heap[g]? = some (.cells cur 5 (0, 0)) ∧ n ≤ cap ∧ cap ≤ 9223372036854775807 ∧ cur.size = cap ∧ ∀ i, i < j → i < n → cur[i]? = some (.int .u8 mk)
section
variable {w w' : World} {v : Value} {n base j : Nat} {o S : Nat → Prop} {mk : Int} {l : List Int}
theorem mk_row (h : Kd.R By 5 w base o v l) (mk : Int) : Mk w v l.length base o 0 mk := by
  have ho := Hand.own_of_R h
  rcases ho.2 with ⟨rfl, hn⟩ | ⟨g, cap, cur, rfl, hb, hh, h1, h2, h3, _⟩
  · exact .inl ⟨hn, rfl⟩
  · exact .inr ⟨g, cap, cur, rfl, hb, h.1 g rfl, hh, h1, by simpa [maxLen] using h2, by simpa using h3, fun i hi => by omega⟩
theorem Mk.upd (h : Mk w v n base o j mk) (hu : Upd w w' S) (hS : ∀ k, o k → ¬ S k) : Mk w' v n base o j mk := by
  rcases h with h | ⟨g, cap, cur, e, h1, h2, h3, h4⟩
  · exact .inl h
  · exact .inr ⟨g, cap, cur, e, h1, h2, (hu.block g (blk_lt h3) (hS g h2)).trans h3, h4⟩
theorem Mk.below (h : Mk w v n base o j mk) (hb : Below w.heap.size w w') : Mk w' v n base o j mk := h.upd (Upd.of_below hb (fun _ => False)) (fun _ _ h_ => h_)
/-- The next byte. -/
theorem mk_at {A : Option Addr} {c : Nat} (h : Mk w (.slice A n c) n base o j mk) (hj : j < n) : ∃ g u, A = some ⟨g, 0, none⟩ ∧ (⟨g, 0, none⟩ : Addr).add j = ⟨g, j, none⟩ ∧ o g ∧ base ≤ g ∧ w.cell? ⟨g, j, none⟩ = some u ∧ w.frozen? ⟨g, j, none⟩ = false ∧ (∃ cells, w.heap[g]? = some (.cells cells 5 (0, 0))) ∧ Mk (w.setCell ⟨g, j, none⟩ (.int .u8 mk)) (.slice A n c) n base o (j + 1) mk := by
  rcases h with ⟨h, _⟩ | ⟨g, cap, cur, e, h1, h2, h3, h4, h5, h6, h7⟩
  · omega
  · injection e with e1 e2 e3
    subst e1 e3
    have hlt : j < cur.size := by omega
    refine ⟨g, cur[j], rfl, add_plain g j, h2, h1, by rw [blk_cell h3]; simp [hlt], blk_frozen h3 _, ⟨_, h3⟩, .inr ⟨g, c, _, rfl, h1, h2, blk_set h3 j _, h4, h5, by rw [Array.size_setIfInBounds]; exact h6, fun i hi hin => ?_⟩⟩
    by_cases he : i = j
    · subst he; simp [hlt]
    · rw [Array.getElem?_setIfInBounds_ne (Ne.symm he)]; exact h7 i (by omega) hin
/-- All of it written: it reads as the mark. -/
theorem Mk.reads {A : Option Addr} {c : Nat} (h : Mk w (.slice A n c) n base o n mk) : Kd.F By w o A n (List.replicate n mk) ∧ n ≤ c := by
  rcases h with ⟨rfl, e⟩ | ⟨g, cap, cur, e, h1, h2, h3, h4, h5, h6, h7⟩
  · injection e with e1 e2 e3
    subst e1 e3
    exact ⟨f_nil _ _, Nat.le_refl _⟩
  · injection e with e1 e2 e3
    subst e1 e3
    refine ⟨fun W2 hW => ⟨by simp, by omega, fun hp => ⟨_, rfl, fun i p hi => ?_⟩⟩, h4⟩
    have hg : W2.heap[g]? = some (.cells cur 5 (0, 0)) := (hW g h2 (blk_lt h3)).trans h3
    have hin : i < n := by have := (List.getElem?_eq_some_iff.1 hi).1; simpa using this
    have hpm : p = mk := by rw [List.getElem?_replicate, if_pos hin] at hi; exact (Option.some.inj hi).symm
    subst hpm
    refine ⟨[.int .u8 p], rfl, rfl, fun q u hq => ?_⟩
    obtain ⟨rfl, rfl⟩ : q = 0 ∧ u = .int .u8 p := by
      cases q with
      | zero => simp at hq; exact ⟨rfl, hq.symm⟩
      | succ q => simp at hq
    rw [show i * By.sz + 0 = i from by show i * 1 + 0 = i; omega, add_plain, blk_cell hg]
    exact h7 i hin hin
end
section
variable {w w' : World} {base : Nat} {o : Nat → Prop} {mk : Int}
/-- Cells of one block set one by one. -/
theorem blk_setCells {g : Nat} {t : TypeId} : ∀ (vs : List Value) (off : Nat) (w : World) (cs : Array Value), w.heap[g]? = some (.cells cs t (0, 0)) →
    ∃ cs' : Array Value, (w.setCells g off vs).heap[g]? = some (.cells cs' t (0, 0)) ∧ cs'.size = cs.size ∧ (∀ i, i < off → cs'[i]? = cs[i]?) ∧ (∀ j u, vs[j]? = some u → off + j < cs.size → cs'[off + j]? = some u) := by
  intro vs
  induction vs with
  | nil => intro off w cs h; exact ⟨cs, h, rfl, fun _ _ => rfl, fun j u hj => by simp at hj⟩
  | cons v r ih =>
    intro off w cs h
    obtain ⟨cs', h1, h2, h3, h4⟩ := ih (off + 1) (w.setCell ⟨g, off, none⟩ v) _ (blk_set h off v)
    refine ⟨cs', h1, by rw [h2, Array.size_setIfInBounds], fun i hi => by rw [h3 i (by omega), Array.getElem?_setIfInBounds_ne (by omega)], fun j u hj hlt => ?_⟩
    cases j with
    | zero =>
      simp at hj
      subst hj
      rw [Nat.add_zero, h3 off (by omega)]
      simp at hlt
      simp [hlt]
    | succ j =>
      rw [show off + (j + 1) = off + 1 + j by omega]
      exact h4 j u (by simpa using hj) (by rw [Array.size_setIfInBounds]; omega)
theorem upd_setCells {g : Nat} : ∀ (vs : List Value) (off : Nat) (w : World), Upd w (w.setCells g off vs) (fun k => k = g) := by
  intro vs
  induction vs with
  | nil => intro off w; exact Upd.refl _ _
  | cons v r ih =>
    intro off w
    exact ((Upd.refl w (fun k => k = g)).setCell (p := ⟨g, off, none⟩) (fun _ => rfl) v).then_ (ih (off + 1) _) (fun _ _ h => h)
/-- A block known cell by cell reads as its marks. -/
theorem blk_marks {g n : Nat} {cur : Array Value} (hg : w.heap[g]? = some (.cells cur 5 (0, 0))) (ho : o g) (hn : n ≤ 9223372036854775807) (hm : ∀ i, i < n → cur[i]? = some (.int .u8 mk)) :
    Kd.F By w o (some ⟨g, 0, none⟩) n (List.replicate n mk) := by
  intro W2 hW
  refine ⟨by simp, by omega, fun hp => ⟨_, rfl, fun i p hi => ?_⟩⟩
  have hg2 : W2.heap[g]? = some (.cells cur 5 (0, 0)) := (hW g ho (blk_lt hg)).trans hg
  have hin : i < n := by have := (List.getElem?_eq_some_iff.1 hi).1; simpa using this
  have hpm : p = mk := by rw [List.getElem?_replicate, if_pos hin] at hi; exact (Option.some.inj hi).symm
  subst hpm
  refine ⟨[.int .u8 p], rfl, rfl, fun q u hq => ?_⟩
  obtain ⟨rfl, rfl⟩ : q = 0 ∧ u = .int .u8 p := by
    cases q with
    | zero => simp at hq; exact ⟨rfl, hq.symm⟩
    | succ q => simp at hq
  rw [show i * By.sz + 0 = i from by show i * 1 + 0 = i; omega, add_plain, blk_cell hg2]
  exact hm i hin
theorem own_marks {n : Nat} {v : Value} (hn : 0 < n) (hl : n ≤ 9223372036854775807) (h : w.ownsRow base 5 1 v n (List.replicate n (.int .u8 mk))) (ho : ∀ k, base ≤ k → o k) :
    ∃ A c, v = .slice A n c ∧ n ≤ c ∧ Kd.F By w o A n (List.replicate n mk) := by
  rcases h.2 with ⟨_, h0⟩ | ⟨g, cap, cur, rfl, hb, hh, h1, h2, h3, h4⟩
  · omega
  · refine ⟨_, cap, rfl, h1, blk_marks hh (ho g hb) hl fun i hi => ?_⟩
    have : (cur.toList.take (n * 1))[i]? = some (.int .u8 mk) := by rw [h4]; simp [hi]
    rw [List.getElem?_take] at this
    simpa [hi] using this
/-- 'append(b, tail...)': the bytes and the tail, b as it was. -/
theorem append_tail {ops : Array Oper} {rest : List Oper} {od : Oper} {a : Act} {Q : Exit → Act → World → Prop}
    (hgd : od.guard = none) (s x : Operand) (hop : od.op = Op.call { callee := Callee.builtin Builtin.append, args := #[s, x], argTypes := #[28, 28] })
    {A A3 : Option Addr} {n c m c3 b3 : Nat} {oT : Nat → Prop} (hs : a.eval s = .slice A n c) (hx : a.eval x = .slice A3 m c3)
    (hM : Mk w (.slice A n c) n base o n mk) (hT : Mk w (.slice A3 m c3) m b3 oT m mk) (hap : ∀ k, o k → ¬ oT k) (hn : n ≤ 4096) (hm : m = 64)
    (hK : ∀ A' c' w', n + 64 ≤ c' → Kd.F By w' (fun k => o k ∨ w.heap.size ≤ k) A' (n + 64) (List.replicate (n + 64) mk) → Mk w' (.slice A n c) n base o n mk → Upd w w' o → wpList Try.prog ops Q rest (a.put od.dst (.slice A' (n + 64) c')) w') :
    wpList Try.prog ops Q (od :: rest) a w := by
  subst hm
  obtain ⟨i5, hi5, hi5'⟩ := Option.map_eq_some_iff.1 G.info5
  have z1 : i5.zero = some (.int .u8 0) := congrArg (fun t => t.1) hi5'
  have z2 : i5.size = 1 := congrArg (fun t => t.2.1) hi5'
  have z3 : i5.bytes = 1 := congrArg (fun t => t.2.2) hi5'
  rcases hT with ⟨h0, _⟩ | ⟨g3, cap3, cur3, e3, hb3, ho3, hh3, k1, k2, k3, k4⟩
  · omega
  injection e3 with q1 q2 q3
  subst q1 q3
  have hnews : ∀ j u, (List.replicate 64 (Value.int .u8 mk))[j]? = some u → w.cell? ((⟨g3, 0, none⟩ : Addr).add j) = some u := by
    intro j u hj
    have hj64 : j < 64 := by have := (List.getElem?_eq_some_iff.1 hj).1; simpa using this
    rw [List.getElem?_replicate, if_pos hj64] at hj
    obtain rfl := Option.some.inj hj
    rw [add_plain, blk_cell hh3]
    exact k4 j hj64 hj64
  have h1c : ∀ u ∈ List.replicate 64 (Value.int .u8 mk), u.oneCell' = true := fun u hu => by rw [(List.mem_replicate.1 hu).2]; rfl
  rcases hM with ⟨rfl, e⟩ | ⟨g, cap, cur, e, hb, ho, hh, h4, h5, h6, h7⟩
  · injection e with e1 e2 e4
    subst e1 e4
    refine wpList_append_grows w hgd s x 28 hop 5 i5 (.int .u8 0) 1 1 Try.underlying28 hi5 z1 z2 z3 rfl (by decide) none 0 0 [] hs (fun _ => ⟨rfl, rfl⟩) rfl (fun b hb => by simp at hb) ⟨g3, 0, none⟩ 64 c3 _ hx (by simp) hnews h1c (by omega) (by decide) (by decide) fun v' w' hown hg => ?_
    obtain ⟨A', c', rfl, hc', hF⟩ := own_marks (o := fun k => o k ∨ w.heap.size ≤ k) (n := 0 + 64) (by omega) (by omega) (by simpa using hown) (fun k hk => .inr hk)
    exact hK A' c' w' hc' hF (.inl ⟨rfl, rfl⟩) ((Upd.refl w o).grown hg (fun k hk => by simp at hk))
  · injection e with e1 e2 e4
    subst e1 e4
    have hcell : ∀ j u, (List.replicate n (Value.int .u8 mk))[j]? = some u → w.cell? ⟨g, 0 + j, none⟩ = some u := by
      intro j u hj
      have hjn : j < n := by have := (List.getElem?_eq_some_iff.1 hj).1; simpa using this
      rw [List.getElem?_replicate, if_pos hjn] at hj
      obtain rfl := Option.some.inj hj
      rw [Nat.zero_add, blk_cell hh]
      exact h7 j hjn hjn
    refine wpList_append_arg w hgd s x 28 hop 5 i5 (.int .u8 0) 1 1 Try.underlying28 hi5 z1 z2 z3 rfl (by decide) g 0 n c (List.replicate n (.int .u8 mk)) hs (by simp) hcell ⟨g3, 0, none⟩ 64 c3 _ hx (by simp) hnews h1c (fun hr j hj => ?_) (by simp [maxLen]; omega) (by omega) (fun hr => ?_) (fun hr v' w' hown hg => ?_)
    · have hj64 : j < 64 := by simpa using hj
      refine ⟨?_, blk_frozen hh _⟩
      rw [blk_cell hh]
      simp
      omega
    · obtain ⟨cs', r1, r2, r3, r4⟩ := blk_setCells (List.replicate 64 (Value.int .u8 mk)) (0 + n * 1) w cur hh
      have hU := (upd_setCells (g := g) (List.replicate 64 (Value.int .u8 mk)) (0 + n * 1) w).mono (S' := o) (fun k _ hk => by subst hk; exact ho)
      refine hK _ c _ hr (blk_marks r1 (.inl ho) (by omega) fun i hi => ?_) (.inr ⟨g, c, cs', rfl, hb, ho, r1, h4, h5, by rw [r2, h6], fun i hi _ => by rw [r3 i (by omega)]; exact h7 i hi hi⟩) hU
      by_cases hin : i < n
      · rw [r3 i (by omega)]; exact h7 i hin hin
      · have := r4 (i - n) (.int .u8 mk) (by rw [List.getElem?_replicate, if_pos (by omega)]) (by omega)
        rwa [show 0 + n * 1 + (i - n) = i by omega] at this
    · obtain ⟨A', c', rfl, hc', hF⟩ := own_marks (o := fun k => o k ∨ w.heap.size ≤ k) (n := n + 64) (mk := mk) (by omega) (by omega) (by rw [← List.replicate_append_replicate]; exact hown) (fun k hk => .inr hk)
      exact hK A' c' w' hc' hF (.inr ⟨g, c, cur, rfl, hb, ho, (hg.block g (blk_lt hh) (by simp)).trans hh, h4, h5, h6, h7⟩) ((Upd.refl w o).grown hg (fun k hk => by simp at hk))
end
end Go.Proofs.Yticokogggepfoaa.D
