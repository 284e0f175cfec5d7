/- same: reads, what is durable, down, writes; and all of it. No condition but that the disks are whole and apart. -/
import Derived.Test.YticokogggepfoaaLH
namespace Go.Proofs.Yticokogggepfoaa.D
open Go.RowKit Go.Proofs.YticokogggepfoaaW.PrintWords Go.Proofs.YticokogggepfoaaW.PrintLast Go.Proofs.YticokogggepfoaaW.PrintMore Go.Proofs.Yticokogggepfoaa.G
attribute [local go_sem] max2_int min2_int max_two min_two max_three min_three max_four min_four
set_option linter.unusedVariables false
set_option linter.unusedSimpArgs false
set_option maxRecDepth 100000
theorem read_len {p : PM} (h : p.ok) (n : Int) : (p.read n).1.length ≤ 4611686018427387904 := by
  have h0 := h.l0
  have h1 := h.l1
  unfold PM.read PM.all
  split <;> try split
  all_goals (try split)
  all_goals (first | (simp; done) | (simp only []; omega) | omega)
theorem dur_len {p : PM} (h : p.ok) (n : Int) : (p.dur n).1.length ≤ 4611686018427387904 := by
  have h0 := h.l0
  have h1 := h.l1
  have ha : (p.all n).length ≤ 16777216 := by unfold PM.all; split <;> assumption
  unfold PM.dur
  split
  · simp
  · simp only [List.length_take]; omega
section
variable {W w w' : World} {o1 o2 : Nat → Prop} {g1 g2 : Nat} {p1 p2 q1 q2 : PM} {m : OM} {A : Option Addr} {c : Nat}
theorem PrX.keep {x : Nat} (h : PrX W w x g1 p1 g2 p2) (hb : Below w.heap.size w w') : PrX W w' x g1 p1 g2 p2 := by
  obtain ⟨hx, o1, o2, h1, h2, hd, hn⟩ := h
  exact ⟨Nat.lt_of_lt_of_le hx hb.size, o1, o2, h1.keep hb, h2.keep hb, hd, hn⟩
set_option maxHeartbeats 4000000 in
theorem same_read (h : Pr W w g1 p1 g2 p2) (hp : p1.ok) (hq : p2.ok) (hk : m.kd = 5) (base : Int) :
    Calls Try.prog 30 #[.pointer (some ⟨g1, 0, none⟩), .pointer (some ⟨g2, 0, none⟩), .agg (OV m A c), .int .i64 base] w fun e w' => e = .returned (.bool (decide ((p1.read m.fl).2 = (p2.read m.fl).2) && decide ((p1.read m.fl).1 = (p2.read m.fl).1))) ∧ Pr W w' g1 p1 g2 p2 := by
  have H := Aside0.mk h
  have HP := Aside0.mk hp
  have HQ := Aside0.mk hq
  have hu45 := Try.underlying45
  obtain ⟨kd, ot, fl, a, b, data⟩ := m
  clear h hp hq
  dsimp only at hk ⊢
  subst hk
  obtain ⟨u1, hu1⟩ : ∃ u, u = p1.read fl := ⟨_, rfl⟩
  obtain ⟨u2, hu2⟩ : ∃ u, u = p2.read fl := ⟨_, rfl⟩
  rw [← hu1, ← hu2]
  have HU1 := Aside0.mk hu1
  have HU2 := Aside0.mk hu2
  have HN := Aside0.mk (show u1.1.length ≤ 4611686018427387904 from hu1 ▸ read_len HP.out fl)
  clear hu1 hu2
  by_cases he : u1.2 = u2.2
  all_goals
    first
    | (have hd : (u1.2 == u2.2) = true := by rw [he]; simp)
    | (have hd : (u1.2 == u2.2) = false := by simpa using he)
    go_enter Try.func30, Try.ntmps30
    go_wp2_with fail
    refine (pr_read (H.out.box _).out HP.out fl).mono ?_
    rintro e w1 ⟨v, rfl, hf⟩
    rw [← HU1.out] at hf ⊢
    obtain ⟨A1, c1, rfl, hb1⟩ := Kd.R_slice_len hf.1
    have hx := (hf.2.block _ (by simp)).trans (heap_alloc_new w (.cells (OV ⟨_, ot, fl, a, b, data⟩ A c) 45))
    obtain ⟨x0, x1, x2, x3, x4, x5⟩ := ov_cells hx
    have hfz := blk_frozen hx
    have H1 := Aside0.mk ((H.out.box _).keep hf.2)
    have HF1 := Aside0.mk hf
    have HB1 := Aside0.mk hb1
    clear hx hf hb1
    go_wp2_with fail
    refine (pr_read H1.out.swap.out HQ.out fl).mono ?_
    rintro e w2 ⟨v, rfl, hf⟩
    rw [← HU2.out] at hf ⊢
    obtain ⟨A2, c2, rfl, hb2⟩ := Kd.R_slice_len hf.1
    have H2 := Aside0.mk (H1.out.keep hf.2)
    have HF2 := Aside0.mk hf
    have HB2 := Aside0.mk hb2
    clear hf hb2 x0 x1 x2 x3 x4 x5 hfz
    go_wp2_with fail
  · refine (equal_calls (Kd.C_below HF1.out.reads HF2.out.2) HB1.out HF2.out.reads HB2.out HN.out).mono ?_
    rintro e w3 ⟨rfl, hb⟩
    have H3 := Aside0.mk (H2.out.keep hb)
    clear hb
    go_wp2_with fail
    go_ret
    exact ⟨by rw [decide_eq_true he, Bool.true_and]; rfl, H3.out.out⟩
  · go_ret
    exact ⟨by rw [decide_eq_false he, Bool.false_and]; rfl, H2.out.out⟩
set_option maxHeartbeats 4000000 in
theorem same_dur (h : Pr W w g1 p1 g2 p2) (hp : p1.ok) (hq : p2.ok) (hk : m.kd = 6) (base : Int) :
    Calls Try.prog 30 #[.pointer (some ⟨g1, 0, none⟩), .pointer (some ⟨g2, 0, none⟩), .agg (OV m A c), .int .i64 base] w fun e w' => e = .returned (.bool (decide ((p1.dur m.fl).2 = (p2.dur m.fl).2) && decide ((p1.dur m.fl).1 = (p2.dur m.fl).1))) ∧ Pr W w' g1 p1 g2 p2 := by
  have H := Aside0.mk h
  have HP := Aside0.mk hp
  have HQ := Aside0.mk hq
  have hu45 := Try.underlying45
  obtain ⟨kd, ot, fl, a, b, data⟩ := m
  clear h hp hq
  dsimp only at hk ⊢
  subst hk
  obtain ⟨u1, hu1⟩ : ∃ u, u = p1.dur fl := ⟨_, rfl⟩
  obtain ⟨u2, hu2⟩ : ∃ u, u = p2.dur fl := ⟨_, rfl⟩
  rw [← hu1, ← hu2]
  have HU1 := Aside0.mk hu1
  have HU2 := Aside0.mk hu2
  have HN := Aside0.mk (show u1.1.length ≤ 4611686018427387904 from hu1 ▸ dur_len HP.out fl)
  clear hu1 hu2
  by_cases he : u1.2 = u2.2
  all_goals
    first
    | (have hd : (u1.2 == u2.2) = true := by rw [he]; simp)
    | (have hd : (u1.2 == u2.2) = false := by simpa using he)
    go_enter Try.func30, Try.ntmps30
    go_wp2_with fail
    refine (pr_dur (H.out.box _).out HP.out fl).mono ?_
    rintro e w1 ⟨v, rfl, hf⟩
    rw [← HU1.out] at hf ⊢
    obtain ⟨A1, c1, rfl, hb1⟩ := Kd.R_slice_len hf.1
    have hx := (hf.2.block _ (by simp)).trans (heap_alloc_new w (.cells (OV ⟨_, ot, fl, a, b, data⟩ A c) 45))
    obtain ⟨x0, x1, x2, x3, x4, x5⟩ := ov_cells hx
    have hfz := blk_frozen hx
    have H1 := Aside0.mk ((H.out.box _).keep hf.2)
    have HF1 := Aside0.mk hf
    have HB1 := Aside0.mk hb1
    clear hx hf hb1
    go_wp2_with fail
    refine (pr_dur H1.out.swap.out HQ.out fl).mono ?_
    rintro e w2 ⟨v, rfl, hf⟩
    rw [← HU2.out] at hf ⊢
    obtain ⟨A2, c2, rfl, hb2⟩ := Kd.R_slice_len hf.1
    have H2 := Aside0.mk (H1.out.keep hf.2)
    have HF2 := Aside0.mk hf
    have HB2 := Aside0.mk hb2
    clear hf hb2 x0 x1 x2 x3 x4 x5 hfz
    go_wp2_with fail
  · refine (equal_calls (Kd.C_below HF1.out.reads HF2.out.2) HB1.out HF2.out.reads HB2.out HN.out).mono ?_
    rintro e w3 ⟨rfl, hb⟩
    have H3 := Aside0.mk (H2.out.keep hb)
    clear hb
    go_wp2_with fail
    go_ret
    exact ⟨by rw [decide_eq_true he, Bool.true_and]; rfl, H3.out.out⟩
  · go_ret
    exact ⟨by rw [decide_eq_false he, Bool.false_and]; rfl, H2.out.out⟩
set_option maxHeartbeats 4000000 in
theorem same_down (h : Pr W w g1 p1 g2 p2) (hk : m.kd = 10) (base : Int) :
    Calls Try.prog 30 #[.pointer (some ⟨g1, 0, none⟩), .pointer (some ⟨g2, 0, none⟩), .agg (OV m A c), .int .i64 base] w fun e w' => e = .returned (.bool (p1.dn == p2.dn)) ∧ Pr W w' g1 p1 g2 p2 := by
  have H := Aside0.mk h
  have hu45 := Try.underlying45
  obtain ⟨kd, ot, fl, a, b, data⟩ := m
  clear h
  dsimp only at hk ⊢
  subst hk
  go_enter Try.func30, Try.ntmps30
  go_wp2_with fail
  refine (pr_down (H.out.keep (bx w _))).mono ?_
  rintro e w1 ⟨rfl, rfl⟩
  go_wp2_with fail
  refine (pr_down (H.out.keep (bx w _)).swap).mono ?_
  rintro e w1 ⟨rfl, rfl⟩
  go_wp2_with fail
  go_ret
  exact ⟨rfl, H.out.keep (bx w _)⟩
set_option maxHeartbeats 4000000 in
theorem same_writes (h : Pr W w g1 p1 g2 p2) (hk : m.kd = 11) (base : Int) :
    Calls Try.prog 30 #[.pointer (some ⟨g1, 0, none⟩), .pointer (some ⟨g2, 0, none⟩), .agg (OV m A c), .int .i64 base] w fun e w' => e = .returned (.bool (wrap64 (p1.wr - base) == p2.wr)) ∧ Pr W w' g1 p1 g2 p2 := by
  have H := Aside0.mk h
  have hu45 := Try.underlying45
  obtain ⟨kd, ot, fl, a, b, data⟩ := m
  clear h
  dsimp only at hk ⊢
  subst hk
  go_enter Try.func30, Try.ntmps30
  go_wp2_with fail
  refine (pr_writes (H.out.keep (bx w _))).mono ?_
  rintro e w1 ⟨rfl, rfl⟩
  go_wp2_with fail
  refine (pr_writes (H.out.keep (bx w _)).swap).mono ?_
  rintro e w1 ⟨rfl, rfl⟩
  go_wp2_with fail
  go_ret
  exact ⟨rfl, H.out.keep (bx w _)⟩
end
end Go.Proofs.Yticokogggepfoaa.D
