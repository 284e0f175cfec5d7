/- The document's disk: Read, Durable, Arm, Load. No condition but what it reads as. -/
import Derived.Test.YticokogggepfoaaRH
import Derived.Deep.DrawnRows
namespace Go.Proofs.Yticokogggepfoaa.D
open Go.RowKit Go.Proofs.YticokogggepfoaaW.PrintWords Go.Proofs.YticokogggepfoaaW.PrintLast Go.Proofs.YticokogggepfoaaW.PrintMore Go.Proofs.Yticokogggepfoaa.G
attribute [local go_sem] max2_int min2_int max_two min_two max_three min_three max_four min_four
set_option linter.unusedVariables false
set_option linter.unusedSimpArgs false
set_option maxRecDepth 100000
attribute [local go_sem ↓] Go.wp_at_zero Go.wp_at_succ
variable {W : World} {ok : Nat → Prop} {s : RS} {m : RM}
def RM.read (m : RM) (n : Int) : List Int × Int := if badF n then ([], 50) else if m.dn = true then ([], 51) else (m.dur n ++ m.pend n, 0)
def RM.durable (m : RM) (n : Int) : List Int × Int := if badF n then ([], 50) else (m.dur n, 0)
def RM.arm (m : RM) (a k : Int) : RM × Int := if badA a k then (m, 2) else if 64 ≤ m.ar.length then (m, 1) else ({ m with ar := m.ar ++ [(a, k)] }, 0)
def RM.load (l0 l1 : List Int) : RM := ⟨l0.take 16777216, l1.take 16777216, [], [], [], 0, false, 0⟩
theorem gen_calls0 {P : Program} {fn : FuncId} {args : Array Value} {Q : Ending → World → Prop} {W : World} (F : World → Prop) (h0 : F W) (h : ∀ W2, F W2 → Calls P fn args W2 Q) : Calls P fn args W Q := h W h0
/-- One box alone. -/
structure One (W w : World) (ok : Nat → Prop) (s : RS) (m : RM) : Prop where
  box : w.heap[W.heap.size]? = some (.cells (RC s m) 68 (0, 0))
  rep : RRep w ok s m
  below : Below W.heap.size W w
theorem One.next {w w' : World} (h : One W w ok s m) (hb : Below w.heap.size w w') : One W w' ok s m := ⟨blk_below h.box hb, h.rep.below hb, h.below.trans (hb.mono h.below.size)⟩
theorem One.new (h : RRep W ok s m) : One W (W.alloc (.cells (RC s m) 68)) ok s m := ⟨heap_alloc_new W _, h.below (below_alloc (Below.refl _ _) _), below_alloc (Below.refl _ _) _⟩
theorem One.drew {w : World} (h : One W w ok s m) : One W w.drew ok s m := h.next (below_drew1 (Below.refl _ _))
set_option maxHeartbeats 4000000 in
theorem rread_calls (h : RRep W ok s m) (hm : m.ok) (n : Int) : Calls Try.prog 47 #[.agg (RC s m), .int .i64 n] W fun e W' => ∃ v, e = .returned (.tuple #[v, .int .i64 (m.read n).2]) ∧ Fresh W (m.read n).1 v W' := by
  have HT := Aside0.mk (One.new h)
  by_cases hb : badF n
  · have e : m.read n = ([], 50) := by unfold RM.read; rw [if_pos hb]
    rw [e]
    have HNM := Aside0.mk (fun w => refused_50 s m w n hb)
    clear h hm hb e
    go_enter Try.func47, Try.ntmps47
    go_wp2_with (go_at_call 57; (with_reducible refine (HNM.out _).mono ?_); rintro e w1 ⟨rfl, hb1⟩; have ht := HT.out.next hb1; obtain ⟨x0, x1, x2, x3, x4, x5, x6, x7⟩ := rc_cells ht.box; have hfz := blk_frozen ht.box; have HT7 := Aside0.mk ht; clear ht hb1)
    go_ret2
    exact ⟨_, rfl, Kd.R_nil _ _ _ _ _, HT7.out.below⟩
  by_cases hd : m.dn = true
  · have e : m.read n = ([], 51) := by unfold RM.read; rw [if_neg hb, if_pos hd]
    rw [e]
    have HNM := Aside0.mk (fun w => refused_51 s m w n hb hd)
    clear h hm hb hd e
    go_enter Try.func47, Try.ntmps47
    go_wp2_with (go_at_call 57; (with_reducible refine (HNM.out _).mono ?_); rintro e w1 ⟨rfl, hb1⟩; have ht := HT.out.next hb1; obtain ⟨x0, x1, x2, x3, x4, x5, x6, x7⟩ := rc_cells ht.box; have hfz := blk_frozen ht.box; have HT7 := Aside0.mk ht; clear ht hb1)
    go_ret2
    exact ⟨_, rfl, Kd.R_nil _ _ _ _ _, HT7.out.below⟩
  · obtain ⟨j, hj⟩ : ∃ j : List Int, j = m.dur n ++ m.pend n := ⟨_, rfl⟩
    have e : m.read n = (j, 0) := by unfold RM.read; rw [if_neg hb, if_neg hd, hj]
    rw [e]
    have HNM := Aside0.mk (fun w => refused_ok s m w n hb (by simpa using hd))
    have HJ := Aside0.mk hj
    have HLL := Aside0.mk (show (m.dur n).length + (m.pend n).length ≤ 140737488355328 by have := hm.len n; omega)
    clear h hm hb hd e hj
    go_enter Try.func47, Try.ntmps47
    go_upto_region 4 with (go_at_call 57; (with_reducible refine (HNM.out _).mono ?_); rintro e w1 ⟨rfl, hb1⟩; have ht := HT.out.next hb1; obtain ⟨x0, x1, x2, x3, x4, x5, x6, x7⟩ := rc_cells ht.box; have hfz := blk_frozen ht.box; have HT7 := Aside0.mk ht; clear ht hb1)
    have HTc := Aside0.mk HT7.out.drew
    clear x0 x1 x2 x3 x4 x5 x6 x7 hfz HT7 HT
    refine start_ (n := 9) (S := fun w' => w'.cell? ⟨W.heap.size, 0, none⟩ = some (.slice s.D0 m.d0.length s.D0c) ∧ w'.cell? ⟨W.heap.size, 1, none⟩ = some (.slice s.D1 m.d1.length s.D1c) ∧ w'.cell? ⟨W.heap.size, 2, none⟩ = some (.slice s.P0 m.p0.length s.P0c) ∧ w'.cell? ⟨W.heap.size, 3, none⟩ = some (.slice s.P1 m.p1.length s.P1c) ∧ w'.cell? ⟨W.heap.size, 4, none⟩ = some (.slice s.Ar m.ar.length s.Arc) ∧ w'.cell? ⟨W.heap.size, 5, none⟩ = some (.int .i64 m.cnt) ∧ w'.cell? ⟨W.heap.size, 6, none⟩ = some (.bool m.dn) ∧ w'.cell? ⟨W.heap.size, 7, none⟩ = some (.int .i64 m.wr)) (ds := []) #[false, false, false, false, false, false, false, false, false] (by kernel_rfl) rfl rfl (rc_cells HTc.out.box) (fun hHeld => ?_)
    refine pure_ (i := 1) (N := (some 14)) (v := ?_) (a' := ?_) #[false, true, false, false, false, false, false, false, false] rfl rfl (by kernel_rfl) (fun _ _ _ h => h) (Or.inl ⟨by rfl, ?_⟩) ?_ ?_
    rotate_left
    · intro w'
      go_simp
      with_reducible rfl
    rotate_left
    · simp only [Act.put, List.setIfInBounds_toArray, List.set_cons_zero, List.set_cons_succ, i64_w, i32_w]
      rfl
    refine pure_ (i := 4) (N := (some 17)) (v := ?_) (a' := ?_) #[false, true, false, false, true, false, false, false, false] rfl rfl (by kernel_rfl) (fun _ _ _ h => h) (Or.inl ⟨by rfl, ?_⟩) ?_ ?_
    rotate_left
    · intro w'
      go_simp
      with_reducible rfl
    rotate_left
    · simp only [Act.put, List.setIfInBounds_toArray, List.set_cons_zero, List.set_cons_succ, i64_w, i32_w]
      rfl
    refine take_ (i := 0) (N := (some 13)) (v := ?_) (a' := ?_) #[true, true, false, false, true, false, false, false, false] rfl rfl (by kernel_rfl) (fun _ _ _ h => h) (Or.inl ⟨by rfl, ?_⟩) hHeld ?_ ?_
    rotate_left
    · rintro w' ⟨s0, s1, s2, s3, s4, s5, s6, s7⟩
      go_simp
      with_reducible rfl
    rotate_left
    · simp only [Act.put, List.setIfInBounds_toArray, List.set_cons_zero, List.set_cons_succ, i64_w, i32_w]
      rfl
    refine take_ (i := 3) (N := (some 16)) (v := ?_) (a' := ?_) #[true, true, false, true, true, false, false, false, false] rfl rfl (by kernel_rfl) (fun _ _ _ h => h) (Or.inl ⟨by rfl, ?_⟩) hHeld ?_ ?_
    rotate_left
    · rintro w' ⟨s0, s1, s2, s3, s4, s5, s6, s7⟩
      go_simp
      with_reducible rfl
    rotate_left
    · simp only [Act.put, List.setIfInBounds_toArray, List.set_cons_zero, List.set_cons_succ, i64_w, i32_w]
      rfl
    refine one_ (i := 2) (N := (some 15)) #[true, true, true, true, true, false, false, false, false] rfl rfl (by kernel_rfl) (by decide) (fun K hK => ?_)
    refine goes_ Try.func59 (by kernel_rfl) rfl #[.agg (RC s m), .int .i64 n] (by rfl) rfl rfl (by (try simp only [List.map_toArray, List.map_cons, List.map_nil]); first | done | rfl | (simp only [List.length_drop, List.length_take]; rfl)) ?_
    with_reducible refine (durable_n s m _ n).mono ?_
    rintro e w2 ⟨rfl, hb⟩
    refine ⟨_, rfl, ?_⟩
    have HTc := Aside0.mk (HTc.out.next hb)
    clear hb
    refine hK.out _ _ (rc_cells HTc.out.box) (fun hHeld => ?_)
    clear hK K
    refine norm_ (a' := ?_) ?_ ?_
    rotate_left
    · show Act.put _ (some 15) _ = _
      simp only [Act.put, List.setIfInBounds_toArray, List.set_cons_zero, List.set_cons_succ, i64_w, i32_w]
      rfl
    refine one_ (i := 5) (N := (some 18)) #[true, true, true, true, true, true, false, false, false] rfl rfl (by kernel_rfl) (by decide) (fun K hK => ?_)
    refine goes_ Try.func60 (by kernel_rfl) rfl #[.agg (RC s m), .int .i64 n] (by rfl) rfl rfl (by (try simp only [List.map_toArray, List.map_cons, List.map_nil]); first | done | rfl | (simp only [List.length_drop, List.length_take]; rfl)) ?_
    with_reducible refine (pending_n s m _ n).mono ?_
    rintro e w2 ⟨rfl, hb⟩
    refine ⟨_, rfl, ?_⟩
    have HTc := Aside0.mk (HTc.out.next hb)
    clear hb
    refine hK.out _ _ (rc_cells HTc.out.box) (fun hHeld => ?_)
    clear hK K
    refine norm_ (a' := ?_) ?_ ?_
    rotate_left
    · show Act.put _ (some 18) _ = _
      simp only [Act.put, List.setIfInBounds_toArray, List.set_cons_zero, List.set_cons_succ, i64_w, i32_w]
      rfl
    refine one_ (i := 6) (N := (some 19)) #[true, true, true, true, true, true, true, false, false] rfl rfl (by kernel_rfl) (by decide) (fun K hK => ?_)
    refine goes_ Try.func58 (by kernel_rfl) rfl #[.slice (s.DA n) (m.dur n).length (s.Dc n), .slice (s.PA n) (m.pend n).length (s.Pc n)] (by rfl) rfl rfl (by (try simp only [List.map_toArray, List.map_cons, List.map_nil]); first | done | rfl | (simp only [List.length_drop, List.length_take]; rfl)) ?_
    with_reducible refine (joined_calls' HJ.out (f_now (HTc.out.rep.dF n)) (HTc.out.rep.dC n) (f_now (HTc.out.rep.pF n)) (HTc.out.rep.pC n) HLL.out).mono ?_
    rintro e w2 ⟨v, rfl, hf⟩
    refine ⟨_, rfl, ?_⟩
    have HFj := Aside0.mk (hf.lower HTc.out.below)
    obtain ⟨Bj, bj, rfl, hbj⟩ := Kd.R_slice_len hf.1
    have HTc := Aside0.mk (HTc.out.next hf.2)
    clear hf hbj
    refine hK.out _ _ (rc_cells HTc.out.box) (fun hHeld => ?_)
    clear hK K
    refine norm_ (a' := ?_) ?_ ?_
    rotate_left
    · show Act.put _ (some 19) _ = _
      simp only [Act.put, List.setIfInBounds_toArray, List.set_cons_zero, List.set_cons_succ, i64_w, i32_w]
      rfl
    refine pure_ (i := 7) (N := (some 4)) (v := ?_) (a' := ?_) #[true, true, true, true, true, true, true, true, false] rfl rfl (by kernel_rfl) (fun _ _ _ h => h) (Or.inl ⟨by rfl, ?_⟩) ?_ ?_
    rotate_left
    · intro w'
      go_simp
      with_reducible rfl
    rotate_left
    · simp only [Act.put, List.setIfInBounds_toArray, List.set_cons_zero, List.set_cons_succ, i64_w, i32_w]
      rfl
    refine pure_ (i := 8) (N := (some 5)) (v := ?_) (a' := ?_) #[true, true, true, true, true, true, true, true, true] rfl rfl (by kernel_rfl) (fun _ _ _ h => h) (Or.inl ⟨by rfl, ?_⟩) ?_ ?_
    rotate_left
    · intro w'
      go_simp
      with_reducible rfl
    rotate_left
    · simp only [Act.put, List.setIfInBounds_toArray, List.set_cons_zero, List.set_cons_succ, i64_w, i32_w]
      rfl
    refine done_ (by kernel_rfl) ?_
    go_wp2
    go_ret2
    exact ⟨_, rfl, HFj.out⟩
set_option maxHeartbeats 4000000 in
theorem rdur_calls (h : RRep W ok s m) (hm : m.ok) (n : Int) : Calls Try.prog 48 #[.agg (RC s m), .int .i64 n] W fun e W' => ∃ v, e = .returned (.tuple #[v, .int .i64 (m.durable n).2]) ∧ Fresh W (m.durable n).1 v W' := by
  have HT := Aside0.mk (One.new h)
  by_cases hb : badF n
  · have e : m.durable n = ([], 50) := by unfold RM.durable; rw [if_pos hb]
    rw [e]
    have d0 : (n == 0) = false := by unfold badF at hb; simp; omega
    have d0' : (n != 0) = true := by unfold badF at hb; simp; omega
    have d1 : (n == 1) = false := by unfold badF at hb; simp; omega
    have d1' : (n != 1) = true := by unfold badF at hb; simp; omega
    clear h hm hb e
    go_enter Try.func48, Try.ntmps48
    go_wp2
    go_ret2
    exact ⟨_, rfl, Kd.R_nil _ _ _ _ _, HT.out.below⟩
  · have e : m.durable n = (m.dur n, 0) := by unfold RM.durable; rw [if_neg hb]
    rw [e]
    have HL := Aside0.mk (show (m.dur n).length ≤ 140737488355328 by have := hm.len n; omega)
    clear h hm e
    rcases badF_not hb with rfl | rfl
    all_goals
      clear hb
      go_enter Try.func48, Try.ntmps48
      go_wp2_with fail
      refine (durable_n s m _ _).mono ?_
      rintro e w1 ⟨rfl, hb⟩
      have HT1 := Aside0.mk (HT.out.next hb)
      clear hb
      go_wp2_with fail
      refine (rcopied_calls (f_now (HT1.out.rep.dF _)) (HT1.out.rep.dC _) HL.out).mono ?_
      rintro e w2 ⟨v, rfl, hf⟩
      have HF := Aside0.mk (hf.lower HT1.out.below)
      clear hf
      go_wp2
      go_ret2
      exact ⟨_, rfl, HF.out⟩
theorem upTo_max {A : Option Addr} {c : Nat} {l : List Int} (h : Kd.C By W A l.length l) (hc : l.length ≤ c) (hl : l.length ≤ 140737488355328) : Calls Try.prog 46 #[.slice A l.length c, .int .i64 16777216] W fun e W' => ∃ v, e = .returned v ∧ Fresh W (l.take 16777216) v W' := upTo_calls 16777216 h hc hl
set_option maxHeartbeats 4000000 in
theorem rload_calls {A B : Option Addr} {c b : Nat} {l r : List Int} (h : Kd.C By W A l.length l) (hc : l.length ≤ c) (hl : l.length ≤ 140737488355328) (h2 : Kd.C By W B r.length r) (hb : r.length ≤ b) (hr : r.length ≤ 140737488355328) :
    Calls Try.prog 38 #[.slice A l.length c, .slice B r.length b] W fun e W' => ∃ s', e = .returned (.agg (RC s' (RM.load l r))) ∧ RRep W' (fun k => W.heap.size ≤ k) s' (RM.load l r) ∧ Below W.heap.size W W' := by
  have H := Aside0.mk h
  have HC := Aside0.mk hc
  have HL := Aside0.mk hl
  have H2 := Aside0.mk h2
  have HB := Aside0.mk hb
  have HR := Aside0.mk hr
  clear h hc hl h2 hb hr
  go_enter Try.func38, Try.ntmps38
  go_wp2_with fail
  refine gen_calls0 (fun w1 => w1.heap[W.heap.size]? = some (.cells zero68 68 (0, 0)) ∧ Below W.heap.size W w1) ⟨heap_alloc_new W _, below_alloc (Below.refl _ _) _⟩ ?_
  rintro w1 ⟨hx, hb1⟩
  refine (upTo_max (Kd.C_below H.out hb1) HC.out HL.out).mono ?_
  rintro e w2 ⟨v, rfl, hf⟩
  obtain ⟨l', hl'⟩ : ∃ l', l' = l.take 16777216 := ⟨_, rfl⟩
  rw [← hl'] at hf
  have HLQ := Aside0.mk hl'
  clear hl'
  obtain ⟨A1, a1, rfl, ha1⟩ := Kd.R_slice_len hf.1
  have hlt := blk_lt hx
  have F1 := Aside0.mk (Kd.F_mono (ok' := fun k => W.heap.size < k) (f_of_R hf.1) (fun k hk => by have := hk.2.1; omega))
  have HA1 := Aside0.mk ha1
  have HX := Aside0.mk (blk_below hx hf.2)
  have HB1 := Aside0.mk (hb1.trans (hf.2.mono hb1.size))
  clear hf hx hb1 ha1 hlt
  go_wp2_with fail
  refine (upTo_max (Kd.C_below H2.out HB1.out) HB.out HR.out).mono ?_
  rintro e w3 ⟨v, rfl, hf⟩
  obtain ⟨r', hr'⟩ : ∃ r', r' = r.take 16777216 := ⟨_, rfl⟩
  rw [← hr'] at hf
  have HRQ := Aside0.mk hr'
  clear hr'
  obtain ⟨A2, a2, rfl, ha2⟩ := Kd.R_slice_len hf.1
  have hlt := blk_lt HX.out
  have F2 := Aside0.mk (Kd.F_mono (ok' := fun k => W.heap.size < k) (f_of_R hf.1) (fun k hk => by have := hk.2.1; omega))
  have F3 := Aside0.mk (f_below F1.out hf.2)
  have HA2 := Aside0.mk ha2
  have hx := blk_below HX.out hf.2
  have HB2 := Aside0.mk (HB1.out.trans (hf.2.mono HB1.out.size))
  have HX2 := Aside0.mk hx
  have z0 : w3.cell? ⟨W.heap.size, 0, none⟩ = some (.slice none 0 0) := (blk_cell hx _).trans rfl
  have z1 : w3.cell? ⟨W.heap.size, 1, none⟩ = some (.slice none 0 0) := (blk_cell hx _).trans rfl
  have z2 : w3.cell? ⟨W.heap.size, 2, none⟩ = some (.slice none 0 0) := (blk_cell hx _).trans rfl
  have z3 : w3.cell? ⟨W.heap.size, 3, none⟩ = some (.slice none 0 0) := (blk_cell hx _).trans rfl
  have z4 : w3.cell? ⟨W.heap.size, 4, none⟩ = some (.slice none 0 0) := (blk_cell hx _).trans rfl
  have z5 : w3.cell? ⟨W.heap.size, 5, none⟩ = some (.int .i64 0) := (blk_cell hx _).trans rfl
  have z6 : w3.cell? ⟨W.heap.size, 6, none⟩ = some (.bool false) := (blk_cell hx _).trans rfl
  have z7 : w3.cell? ⟨W.heap.size, 7, none⟩ = some (.int .i64 0) := (blk_cell hx _).trans rfl
  have hfo := blk_frozen hx
  clear hf hx ha2 hlt
  have HLD := Aside0.mk (show RM.load l r = ⟨l', r', [], [], [], 0, false, 0⟩ by rw [HLQ.out, HRQ.out]; rfl)
  go_wp2
  have hr0 : RRep w3 (fun k => W.heap.size < k) ⟨A1, a1, A2, a2, none, 0, none, 0, none, 0⟩ ⟨l', r', [], [], [], 0, false, 0⟩ := ⟨F3.out, HA1.out, F2.out, HA2.out, f_nil _ _, Nat.le_refl _, f_nil _ _, Nat.le_refl _, f_nil _ _, Nat.le_refl _⟩
  refine bodyPost_ret (ret68 Try.results38 _ _ W.heap.size (RC ⟨A1, a1, A2, a2, none, 0, none, 0, none, 0⟩ ⟨l', r', [], [], [], 0, false, 0⟩) rfl (out_copy HX2.out _ _ _ _ _ _ _ _) rfl) rfl ⟨⟨A1, a1, A2, a2, none, 0, none, 0, none, 0⟩, by rw [HLD.out], ?_, ?_⟩
  · rw [HLD.out]
    exact (hr0.upd (out_upd (S := fun k => k = W.heap.size) (Upd.refl w3 _) rfl _ _ _ _ _ _ _ _) (fun k hk _ he => by omega)).mono (fun k hk => Nat.le_of_lt hk)
  · exact (out_upd (S := fun k => k = W.heap.size) (Upd.refl w3 _) rfl _ _ _ _ _ _ _ _).below HB2.out (fun k hk => by omega) HB2.out.size
end Go.Proofs.Yticokogggepfoaa.D
