/- The document's disk: Append, Sync, Truncate. No condition but what it reads as. -/
import Derived.Test.YticokogggepfoaaRC
namespace Go.Proofs.Yticokogggepfoaa.D
open Go.RowKit Go.Proofs.YticokogggepfoaaW.PrintWords Go.Proofs.YticokogggepfoaaW.PrintLast Go.Proofs.YticokogggepfoaaW.PrintMore Go.Proofs.Yticokogggepfoaa.G
attribute [local go_sem] max2_int min2_int max_two min_two max_three min_three max_four min_four
set_option linter.unusedVariables false
set_option linter.unusedSimpArgs false
set_option maxRecDepth 100000
structure RM.ok (m : RM) : Prop where
  l0 : m.d0.length + m.p0.length ≤ 16777216
  l1 : m.d1.length + m.p1.length ≤ 16777216
  la : m.ar.length ≤ 64
  ha : ∀ a ∈ m.ar, 1 ≤ a.1 ∧ a.1 ≤ 1000000 ∧ 0 ≤ a.2 ∧ a.2 ≤ 16777216
  c0 : 0 ≤ m.cnt
  c1 : ∀ a r, m.ar = a :: r → m.cnt < a.1
  c2 : m.ar = [] → m.cnt = 0
theorem RM.ok.cnt {m : RM} (h : m.ok) : m.cnt ≤ 1000000 := by
  cases har : m.ar with
  | nil => rw [h.c2 har]; omega
  | cons a r => have := h.c1 a r har; have := (h.ha a (by rw [har]; simp)).2.1; omega
def RM.fin (q : RM) (z : RM → RM) : RM × Int := if q.counted.2 = true then (q.counted.1.fallen, 51) else (z q.counted.1, 0)
def RM.append (m : RM) (n : Int) (data : List Int) : RM × Int :=
  if badF n then (m, 50) else if m.dn = true then (m, 51) else if 16777216 < (m.dur n).length + (m.pend n).length + data.length then (m, 52) else (m.with_ n (m.dur n) (m.pend n ++ data)).fin id
def RM.syncf (m : RM) (n : Int) : RM × Int :=
  if badF n then (m, 50) else if m.dn = true then (m, 51) else m.fin (fun q => q.with_ n (q.dur n ++ q.pend n) [])
def RM.trunc (m : RM) (n : Int) (size : Int) : RM × Int :=
  if badF n then (m, 50) else if m.dn = true then (m, 51) else if size < 0 ∨ (((m.dur n).length + (m.pend n).length : Nat) : Int) < size then (m, 2) else m.fin (fun q => q.with_ n ((m.dur n ++ m.pend n).take size.toNat) [])
theorem box_all {W w : World} {s : RS} {m : RM} (h : w.heap[W.heap.size]? = some (.cells (RC s m) 68 (0, 0))) (v0 v1 v2 v3 v4 v5 v6 v7 : Value) :
    ((((((((w.setCell ⟨W.heap.size, 0, none⟩ v0).setCell ⟨W.heap.size, 1, none⟩ v1).setCell ⟨W.heap.size, 2, none⟩ v2).setCell ⟨W.heap.size, 3, none⟩ v3).setCell ⟨W.heap.size, 4, none⟩ v4).setCell ⟨W.heap.size, 5, none⟩ v5).setCell ⟨W.heap.size, 6, none⟩ v6).setCell ⟨W.heap.size, 7, none⟩ v7).heap[W.heap.size]? = some (.cells #[v0, v1, v2, v3, v4, v5, v6, v7] 68 (0, 0)) := by
  have h1 := blk_put (cs' := #[v0, (.slice s.D1 m.d1.length s.D1c), (.slice s.P0 m.p0.length s.P0c), (.slice s.P1 m.p1.length s.P1c), (.slice s.Ar m.ar.length s.Arc), (.int .i64 m.cnt), (.bool m.dn), (.int .i64 m.wr)]) h 0 v0 rfl
  have h2 := blk_put (cs' := #[v0, v1, (.slice s.P0 m.p0.length s.P0c), (.slice s.P1 m.p1.length s.P1c), (.slice s.Ar m.ar.length s.Arc), (.int .i64 m.cnt), (.bool m.dn), (.int .i64 m.wr)]) h1 1 v1 rfl
  have h3 := blk_put (cs' := #[v0, v1, v2, (.slice s.P1 m.p1.length s.P1c), (.slice s.Ar m.ar.length s.Arc), (.int .i64 m.cnt), (.bool m.dn), (.int .i64 m.wr)]) h2 2 v2 rfl
  have h4 := blk_put (cs' := #[v0, v1, v2, v3, (.slice s.Ar m.ar.length s.Arc), (.int .i64 m.cnt), (.bool m.dn), (.int .i64 m.wr)]) h3 3 v3 rfl
  have h5 := blk_put (cs' := #[v0, v1, v2, v3, v4, (.int .i64 m.cnt), (.bool m.dn), (.int .i64 m.wr)]) h4 4 v4 rfl
  have h6 := blk_put (cs' := #[v0, v1, v2, v3, v4, v5, (.bool m.dn), (.int .i64 m.wr)]) h5 5 v5 rfl
  have h7 := blk_put (cs' := #[v0, v1, v2, v3, v4, v5, v6, (.int .i64 m.wr)]) h6 6 v6 rfl
  have h8 := blk_put (cs' := #[v0, v1, v2, v3, v4, v5, v6, v7]) h7 7 v7 rfl
  exact h8
theorem St.put {W w : World} {ok : Nat → Prop} {s s' : RS} {m m' : RM} (h : St W w ok s m) (r : RRep w (okb W ok) s' m') : St W ((((((((w.setCell ⟨W.heap.size, 0, none⟩ (.slice s'.D0 m'.d0.length s'.D0c)).setCell ⟨W.heap.size, 1, none⟩ (.slice s'.D1 m'.d1.length s'.D1c)).setCell ⟨W.heap.size, 2, none⟩ (.slice s'.P0 m'.p0.length s'.P0c)).setCell ⟨W.heap.size, 3, none⟩ (.slice s'.P1 m'.p1.length s'.P1c)).setCell ⟨W.heap.size, 4, none⟩ (.slice s'.Ar m'.ar.length s'.Arc)).setCell ⟨W.heap.size, 5, none⟩ (.int .i64 m'.cnt)).setCell ⟨W.heap.size, 6, none⟩ (.bool m'.dn)).setCell ⟨W.heap.size, 7, none⟩ (.int .i64 m'.wr)) ok s' m' where
  two := ⟨box_all h.two.box _ _ _ _ _ _ _ _, (out_upd (S := fun k => k = W.heap.size) (Upd.refl w _) rfl _ _ _ _ _ _ _ _).block _ (blk_lt h.two.out) (by omega) |>.trans h.two.out, (out_upd (S := fun k => k = W.heap.size) (Upd.refl w _) rfl _ _ _ _ _ _ _ _).below h.two.below (fun k hk => by omega) h.two.below.size⟩
  rep := r.upd (out_upd (S := fun k => k = W.heap.size) (Upd.refl w _) rfl _ _ _ _ _ _ _ _) (fun k hk _ he => hk.2.1 he)
theorem St.done {W w : World} {ok : Nat → Prop} {s s' : RS} {m m' : RM} (h : St W w ok s m) (r : RRep w (okb W ok) s' m') :
    ((((((((w.setCell ⟨W.heap.size + 1, 0, none⟩ (.slice s'.D0 m'.d0.length s'.D0c)).setCell ⟨W.heap.size + 1, 1, none⟩ (.slice s'.D1 m'.d1.length s'.D1c)).setCell ⟨W.heap.size + 1, 2, none⟩ (.slice s'.P0 m'.p0.length s'.P0c)).setCell ⟨W.heap.size + 1, 3, none⟩ (.slice s'.P1 m'.p1.length s'.P1c)).setCell ⟨W.heap.size + 1, 4, none⟩ (.slice s'.Ar m'.ar.length s'.Arc)).setCell ⟨W.heap.size + 1, 5, none⟩ (.int .i64 m'.cnt)).setCell ⟨W.heap.size + 1, 6, none⟩ (.bool m'.dn)).setCell ⟨W.heap.size + 1, 7, none⟩ (.int .i64 m'.wr)).heap[W.heap.size + 1]? = some (.cells (RC s' m') 68 (0, 0)) ∧ RRep ((((((((w.setCell ⟨W.heap.size + 1, 0, none⟩ (.slice s'.D0 m'.d0.length s'.D0c)).setCell ⟨W.heap.size + 1, 1, none⟩ (.slice s'.D1 m'.d1.length s'.D1c)).setCell ⟨W.heap.size + 1, 2, none⟩ (.slice s'.P0 m'.p0.length s'.P0c)).setCell ⟨W.heap.size + 1, 3, none⟩ (.slice s'.P1 m'.p1.length s'.P1c)).setCell ⟨W.heap.size + 1, 4, none⟩ (.slice s'.Ar m'.ar.length s'.Arc)).setCell ⟨W.heap.size + 1, 5, none⟩ (.int .i64 m'.cnt)).setCell ⟨W.heap.size + 1, 6, none⟩ (.bool m'.dn)).setCell ⟨W.heap.size + 1, 7, none⟩ (.int .i64 m'.wr)) (fun k => ok k ∨ W.heap.size ≤ k) s' m' ∧ Below W.heap.size W ((((((((w.setCell ⟨W.heap.size + 1, 0, none⟩ (.slice s'.D0 m'.d0.length s'.D0c)).setCell ⟨W.heap.size + 1, 1, none⟩ (.slice s'.D1 m'.d1.length s'.D1c)).setCell ⟨W.heap.size + 1, 2, none⟩ (.slice s'.P0 m'.p0.length s'.P0c)).setCell ⟨W.heap.size + 1, 3, none⟩ (.slice s'.P1 m'.p1.length s'.P1c)).setCell ⟨W.heap.size + 1, 4, none⟩ (.slice s'.Ar m'.ar.length s'.Arc)).setCell ⟨W.heap.size + 1, 5, none⟩ (.int .i64 m'.cnt)).setCell ⟨W.heap.size + 1, 6, none⟩ (.bool m'.dn)).setCell ⟨W.heap.size + 1, 7, none⟩ (.int .i64 m'.wr)) :=
  ⟨out_copy h.two.out _ _ _ _ _ _ _ _, (r.upd (out_upd (S := fun k => k = W.heap.size + 1) (Upd.refl w _) rfl _ _ _ _ _ _ _ _) (fun k hk _ he => hk.2.2 he)).mono (fun k hk => hk.1),
    (out_upd (S := fun k => k = W.heap.size + 1) (Upd.refl w _) rfl _ _ _ _ _ _ _ _).below h.two.below (fun k hk => by omega) h.two.below.size⟩
theorem durable_0 (s : RS) (m : RM) (W : World) : Calls Try.prog 59 #[.agg (RC s m), .int .i64 0] W fun e W' => e = .returned (.slice s.D0 m.d0.length s.D0c) ∧ Below W.heap.size W W' := durable_calls s m W 0
theorem durable_1 (s : RS) (m : RM) (W : World) : Calls Try.prog 59 #[.agg (RC s m), .int .i64 1] W fun e W' => e = .returned (.slice s.D1 m.d1.length s.D1c) ∧ Below W.heap.size W W' := durable_calls s m W 1
theorem pending_0 (s : RS) (m : RM) (W : World) : Calls Try.prog 60 #[.agg (RC s m), .int .i64 0] W fun e W' => e = .returned (.slice s.P0 m.p0.length s.P0c) ∧ Below W.heap.size W W' := pending_calls s m W 0
theorem pending_1 (s : RS) (m : RM) (W : World) : Calls Try.prog 60 #[.agg (RC s m), .int .i64 1] W fun e W' => e = .returned (.slice s.P1 m.p1.length s.P1c) ∧ Below W.heap.size W W' := pending_calls s m W 1
theorem refused_ok (s : RS) (m : RM) (W : World) (n : Int) (hb : ¬ badF n) (hd : m.dn = false) : Calls Try.prog 57 #[.agg (RC s m), .int .i64 n] W fun e W' => e = .returned (.int .i64 0) ∧ Below W.heap.size W W' := by
  have h := refused_calls s m W n
  rwa [show m.refused n = 0 by unfold RM.refused; rw [if_neg hb, if_neg (by rw [hd]; simp)]] at h
theorem refused_50 (s : RS) (m : RM) (W : World) (n : Int) (hb : badF n) : Calls Try.prog 57 #[.agg (RC s m), .int .i64 n] W fun e W' => e = .returned (.int .i64 50) ∧ Below W.heap.size W W' := by
  have h := refused_calls s m W n
  rwa [show m.refused n = 50 by unfold RM.refused; rw [if_pos hb]] at h
theorem refused_51 (s : RS) (m : RM) (W : World) (n : Int) (hb : ¬ badF n) (hd : m.dn = true) : Calls Try.prog 57 #[.agg (RC s m), .int .i64 n] W fun e W' => e = .returned (.int .i64 51) ∧ Below W.heap.size W W' := by
  have h := refused_calls s m W n
  rwa [show m.refused n = 51 by unfold RM.refused; rw [if_neg hb, if_pos hd]] at h
/-- What a call that answers a disk and an error leaves. -/
def RPost (W : World) (ok : Nat → Prop) (r : RM × Int) (e : Ending) (W' : World) : Prop := ∃ s', e = .returned (.tuple #[.agg (RC s' r.1), .int .i64 r.2]) ∧ RRep W' (fun k => ok k ∨ W.heap.size ≤ k) s' r.1 ∧ Below W.heap.size W W'
variable {W : World} {ok : Nat → Prop} {s : RS} {m : RM}
theorem rappend_no (h : RRep W ok s m) (n : Int) (Ad : Option Addr) (cd : Nat) (data : List Int) (hb : badF n ∨ m.dn = true) : Calls Try.prog 50 #[.agg (RC s m), .int .i64 n, .slice Ad data.length cd] W (RPost W ok (m.append n data)) := by
  by_cases hb1 : badF n
  · have e : m.append n data = (m, 50) := by unfold RM.append; rw [if_pos hb1]
    rw [e]
    have HT := Aside0.mk (St.new h)
    have hnm := fun w => refused_50 s m w n hb1
    clear h hb hb1 e
    go_enter Try.func50, Try.ntmps50
    go_wp2_with (go_at_call 57; (with_reducible refine (hnm _).mono ?_); rintro e w1 ⟨rfl, hb1⟩; have ht := HT.out.next hb1; obtain ⟨x0, x1, x2, x3, x4, x5, x6, x7⟩ := rc_cells ht.two.box; obtain ⟨z0, z1, z2, z3, z4, z5, z6, z7⟩ := out_cells ht.two; have hfz := blk_frozen ht.two.box; have hfo := blk_frozen ht.two.out; have HT1 := Aside0.mk ht; clear ht hb1)
    exact bodyPost_ret (ret68t Try.results50 _ _ (W.heap.size + 1) (RC s m) rfl (HT1.out.done HT1.out.rep).1 rfl) rfl ⟨s, rfl, (HT1.out.done HT1.out.rep).2⟩
  · have hd : m.dn = true := hb.resolve_left hb1
    have e : m.append n data = (m, 51) := by unfold RM.append; rw [if_neg hb1, if_pos hd]
    rw [e]
    have HT := Aside0.mk (St.new h)
    have hnm := fun w => refused_51 s m w n hb1 hd
    clear h hb hb1 e hd
    go_enter Try.func50, Try.ntmps50
    go_wp2_with (go_at_call 57; (with_reducible refine (hnm _).mono ?_); rintro e w1 ⟨rfl, hb1⟩; have ht := HT.out.next hb1; obtain ⟨x0, x1, x2, x3, x4, x5, x6, x7⟩ := rc_cells ht.two.box; obtain ⟨z0, z1, z2, z3, z4, z5, z6, z7⟩ := out_cells ht.two; have hfz := blk_frozen ht.two.box; have hfo := blk_frozen ht.two.out; have HT1 := Aside0.mk ht; clear ht hb1)
    exact bodyPost_ret (ret68t Try.results50 _ _ (W.heap.size + 1) (RC s m) rfl (HT1.out.done HT1.out.rep).1 rfl) rfl ⟨s, rfl, (HT1.out.done HT1.out.rep).2⟩
theorem rsync_no (h : RRep W ok s m) (n : Int) (hb : badF n ∨ m.dn = true) : Calls Try.prog 51 #[.agg (RC s m), .int .i64 n] W (RPost W ok (m.syncf n)) := by
  by_cases hb1 : badF n
  · have e : m.syncf n = (m, 50) := by unfold RM.syncf; rw [if_pos hb1]
    rw [e]
    have HT := Aside0.mk (St.new h)
    have hnm := fun w => refused_50 s m w n hb1
    clear h hb hb1 e
    go_enter Try.func51, Try.ntmps51
    go_wp2_with (go_at_call 57; (with_reducible refine (hnm _).mono ?_); rintro e w1 ⟨rfl, hb1⟩; have ht := HT.out.next hb1; obtain ⟨x0, x1, x2, x3, x4, x5, x6, x7⟩ := rc_cells ht.two.box; obtain ⟨z0, z1, z2, z3, z4, z5, z6, z7⟩ := out_cells ht.two; have hfz := blk_frozen ht.two.box; have hfo := blk_frozen ht.two.out; have HT1 := Aside0.mk ht; clear ht hb1)
    exact bodyPost_ret (ret68t Try.results51 _ _ (W.heap.size + 1) (RC s m) rfl (HT1.out.done HT1.out.rep).1 rfl) rfl ⟨s, rfl, (HT1.out.done HT1.out.rep).2⟩
  · have hd : m.dn = true := hb.resolve_left hb1
    have e : m.syncf n = (m, 51) := by unfold RM.syncf; rw [if_neg hb1, if_pos hd]
    rw [e]
    have HT := Aside0.mk (St.new h)
    have hnm := fun w => refused_51 s m w n hb1 hd
    clear h hb hb1 e hd
    go_enter Try.func51, Try.ntmps51
    go_wp2_with (go_at_call 57; (with_reducible refine (hnm _).mono ?_); rintro e w1 ⟨rfl, hb1⟩; have ht := HT.out.next hb1; obtain ⟨x0, x1, x2, x3, x4, x5, x6, x7⟩ := rc_cells ht.two.box; obtain ⟨z0, z1, z2, z3, z4, z5, z6, z7⟩ := out_cells ht.two; have hfz := blk_frozen ht.two.box; have hfo := blk_frozen ht.two.out; have HT1 := Aside0.mk ht; clear ht hb1)
    exact bodyPost_ret (ret68t Try.results51 _ _ (W.heap.size + 1) (RC s m) rfl (HT1.out.done HT1.out.rep).1 rfl) rfl ⟨s, rfl, (HT1.out.done HT1.out.rep).2⟩
theorem rtrunc_no (h : RRep W ok s m) (n : Int) (size : Int) (hb : badF n ∨ m.dn = true) : Calls Try.prog 52 #[.agg (RC s m), .int .i64 n, .int .i64 size] W (RPost W ok (m.trunc n size)) := by
  by_cases hb1 : badF n
  · have e : m.trunc n size = (m, 50) := by unfold RM.trunc; rw [if_pos hb1]
    rw [e]
    have HT := Aside0.mk (St.new h)
    have hnm := fun w => refused_50 s m w n hb1
    clear h hb hb1 e
    go_enter Try.func52, Try.ntmps52
    go_wp2_with (go_at_call 57; (with_reducible refine (hnm _).mono ?_); rintro e w1 ⟨rfl, hb1⟩; have ht := HT.out.next hb1; obtain ⟨x0, x1, x2, x3, x4, x5, x6, x7⟩ := rc_cells ht.two.box; obtain ⟨z0, z1, z2, z3, z4, z5, z6, z7⟩ := out_cells ht.two; have hfz := blk_frozen ht.two.box; have hfo := blk_frozen ht.two.out; have HT1 := Aside0.mk ht; clear ht hb1)
    exact bodyPost_ret (ret68t Try.results52 _ _ (W.heap.size + 1) (RC s m) rfl (HT1.out.done HT1.out.rep).1 rfl) rfl ⟨s, rfl, (HT1.out.done HT1.out.rep).2⟩
  · have hd : m.dn = true := hb.resolve_left hb1
    have e : m.trunc n size = (m, 51) := by unfold RM.trunc; rw [if_neg hb1, if_pos hd]
    rw [e]
    have HT := Aside0.mk (St.new h)
    have hnm := fun w => refused_51 s m w n hb1 hd
    clear h hb hb1 e hd
    go_enter Try.func52, Try.ntmps52
    go_wp2_with (go_at_call 57; (with_reducible refine (hnm _).mono ?_); rintro e w1 ⟨rfl, hb1⟩; have ht := HT.out.next hb1; obtain ⟨x0, x1, x2, x3, x4, x5, x6, x7⟩ := rc_cells ht.two.box; obtain ⟨z0, z1, z2, z3, z4, z5, z6, z7⟩ := out_cells ht.two; have hfz := blk_frozen ht.two.box; have hfo := blk_frozen ht.two.out; have HT1 := Aside0.mk ht; clear ht hb1)
    exact bodyPost_ret (ret68t Try.results52 _ _ (W.heap.size + 1) (RC s m) rfl (HT1.out.done HT1.out.rep).1 rfl) rfl ⟨s, rfl, (HT1.out.done HT1.out.rep).2⟩
end Go.Proofs.Yticokogggepfoaa.D
