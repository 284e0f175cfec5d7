/- The document's disk: Sync and Truncate of a good file. No condition but what it reads as. -/
import Derived.Test.YticokogggepfoaaRG
import Derived.Deep.DrawnRows
namespace Go.Proofs.Yticokogggepfoaa.D
open Go.RowKit Go.Proofs.YticokogggepfoaaW.PrintWords Go.Proofs.YticokogggepfoaaW.PrintLast Go.Proofs.YticokogggepfoaaW.PrintMore Go.Proofs.Yticokogggepfoaa.G
attribute [local go_sem] max2_int min2_int max_two min_two max_three min_three max_four min_four
set_option linter.unusedVariables false
set_option linter.unusedSimpArgs false
set_option maxRecDepth 100000
attribute [local go_sem ↓] Go.wp_at_zero Go.wp_at_succ
variable {W : World} {ok : Nat → Prop} {s : RS} {m q : RM}
theorem with_nil (s : RS) (m : RM) (W : World) (n : Int) (A : Option Addr) (ac : Nat) (a : List Int) :
    Calls Try.prog 61 #[.agg (RC s m), .int .i64 n, .slice A a.length ac, .slice none 0 0] W fun e W' => e = .returned (.agg (RC (s.with_ n A ac none 0) (m.with_ n a []))) ∧ Below W.heap.size W W' := with_calls s m W n A ac a none 0 []
theorem counted_len (q : RM) (n : Int) : q.counted.1.dur n = q.dur n ∧ q.counted.1.pend n = q.pend n := by
  have e : q.counted.1.d0 = q.d0 ∧ q.counted.1.d1 = q.d1 ∧ q.counted.1.p0 = q.p0 ∧ q.counted.1.p1 = q.p1 := by unfold RM.counted; split <;> simp
  obtain ⟨e0, e1, e2, e3⟩ := e
  unfold RM.dur RM.pend; rw [e0, e1, e2, e3]; exact ⟨rfl, rfl⟩
theorem f_put {w : World} {A : Option Addr} {n : Nat} {l : List Int} (h : Kd.F By w (okb W ok) A n l) (v0 v1 v2 v3 v4 v5 v6 v7 : Value) :
    Kd.F By ((((((((w.setCell ⟨W.heap.size, 0, none⟩ v0).setCell ⟨W.heap.size, 1, none⟩ v1).setCell ⟨W.heap.size, 2, none⟩ v2).setCell ⟨W.heap.size, 3, none⟩ v3).setCell ⟨W.heap.size, 4, none⟩ v4).setCell ⟨W.heap.size, 5, none⟩ v5).setCell ⟨W.heap.size, 6, none⟩ v6).setCell ⟨W.heap.size, 7, none⟩ v7) (okb W ok) A n l :=
  f_upd h (out_upd (S := fun k => k = W.heap.size) (Upd.refl w _) rfl _ _ _ _ _ _ _ _) (fun k hk _ he => hk.2.1 he)
set_option maxHeartbeats 4000000 in
theorem rsync_go (h : RRep W ok s q) (hm : q.ok) (n : Int) (hn : ¬ badF n) (hd : q.dn = false) : Calls Try.prog 51 #[.agg (RC s q), .int .i64 n] W (RPost W ok (q.syncf n)) := by
  have hnd : ¬ q.dn = true := by rw [hd]; simp
  have HT := Aside0.mk (St.new h)
  have HNM := Aside0.mk (fun w => refused_ok s q w n hn hd)
  have HQO := Aside0.mk hm
  have HLN := Aside0.mk (hm.len n)
  have HA := Aside0.mk (show q.syncf n = q.fin (fun q => q.with_ n (q.dur n ++ q.pend n) []) by unfold RM.syncf; rw [if_neg hn, if_neg hnd])
  clear h hm hn hd hnd
  go_enter Try.func51, Try.ntmps51
  go_upto_region 4 with (go_at_call 57; (with_reducible refine (HNM.out _).mono ?_); rintro e w1 ⟨rfl, hb1⟩; have ht := HT.out.next hb1; obtain ⟨x0, x1, x2, x3, x4, x5, x6, x7⟩ := rc_cells ht.two.box; have hfz := blk_frozen ht.two.box; have HT7 := Aside0.mk ht; clear ht hb1)
  clear x0 x1 x2 x3 x4 x5 x6 x7 hfz
  obtain ⟨x0, x1, x2, x3, x4, x5, x6, x7⟩ := rc_cells HT7.out.two.box
  have hfz0 := blk_frozen HT7.out.two.box
  cases hw : q.counted.2 with
  | true =>
    have HB := Aside0.mk (HA.out.trans (show q.fin _ = (q.counted.1.fallen, 51) by unfold RM.fin; rw [if_pos hw]))
    have HFL := Aside0.mk (counted_falls HQO.out hw)
    clear HA
    go_wp2_with (first | (go_at_call 62; (with_reducible refine (counted_any HT7.out.rep HQO.out).mono ?_); rintro e wc ⟨rfl, hbc⟩; have ht8 := HT7.out.next hbc; obtain ⟨x0, x1, x2, x3, x4, x5, x6, x7⟩ := rc_cells ht8.two.box; obtain ⟨z0, z1, z2, z3, z4, z5, z6, z7⟩ := out_cells ht8.two; have hfz := blk_frozen ht8.two.box; have hfo := blk_frozen ht8.two.out; have HT8 := Aside0.mk ht8; have HT9 := Aside0.mk (ht8.put (counted_rep ht8.rep)); clear ht8 hbc) | (go_at_call 63; (with_reducible refine (fallen_any HT9.out.rep HFL.out).mono ?_); rintro e wd ⟨s3, rfl, hr3, hbd⟩; have ht10 := HT9.out.next hbd; obtain ⟨y0, y1, y2, y3, y4, y5, y6, y7⟩ := out_cells ht10.two; have hfp := blk_frozen ht10.two.out; have HT10 := Aside0.mk ht10; have HR3 := Aside0.mk (okb_new hr3 (blk_lt HT9.out.two.out)); clear ht10 hbd hr3))
    exact bodyPost_ret (ret68t Try.results51 _ _ (W.heap.size + 1) (RC s3 q.counted.1.fallen) rfl (HT10.out.done HR3.out).1 rfl) rfl (by rw [HB.out]; exact ⟨s3, rfl, (HT10.out.done HR3.out).2⟩)
  | false =>
    have HB := Aside0.mk (HA.out.trans (show q.fin (fun q => q.with_ n (q.dur n ++ q.pend n) []) = (q.counted.1.with_ n (q.counted.1.dur n ++ q.counted.1.pend n) [], 0) by unfold RM.fin; rw [if_neg (by rw [hw]; simp)]))
    have HLL := Aside0.mk (show (q.counted.1.dur n).length + (q.counted.1.pend n).length ≤ 140737488355328 by rw [(counted_len q n).1, (counted_len q n).2]; have := HLN.out; omega)
    clear HA
    go_upto_region 7 with (first | (go_at_call 62; (with_reducible refine (counted_any HT7.out.rep HQO.out).mono ?_); rintro e wc ⟨rfl, hbc⟩; have ht8 := HT7.out.next hbc; obtain ⟨x0, x1, x2, x3, x4, x5, x6, x7⟩ := rc_cells ht8.two.box; obtain ⟨z0, z1, z2, z3, z4, z5, z6, z7⟩ := out_cells ht8.two; have hfz := blk_frozen ht8.two.box; have hfo := blk_frozen ht8.two.out; have HT8 := Aside0.mk ht8; have HT9 := Aside0.mk (ht8.put (counted_rep ht8.rep)); clear ht8 hbc))
    obtain ⟨m, hmq⟩ : ∃ m : RM, m = q.counted.1 := ⟨_, rfl⟩
    rw [← hmq] at HT9 HB HLL
    obtain ⟨j, hj⟩ : ∃ j : List Int, j = m.dur n ++ m.pend n := ⟨_, rfl⟩
    rw [← hj] at HB
    have HJ := Aside0.mk hj
    clear hj x0 x1 x2 x3 x4 x5 x6 x7 hfz0 z0 z1 z2 z3 z4 z5 z6 z7 hfz hfo HT8 HT7 HT
    rw [← hmq]
    clear hmq
    refine gen_world (fun w2 => St W w2 ok s m) HT9.out ?_
    intro w2 ht2
    have HTc := Aside0.mk ht2.drew
    clear ht2 HT9
    refine start_ (n := 12) (S := fun w' => w'.cell? ⟨W.heap.size, 0, none⟩ = some (.slice s.D0 m.d0.length s.D0c) ∧ w'.cell? ⟨W.heap.size, 1, none⟩ = some (.slice s.D1 m.d1.length s.D1c) ∧ w'.cell? ⟨W.heap.size, 2, none⟩ = some (.slice s.P0 m.p0.length s.P0c) ∧ w'.cell? ⟨W.heap.size, 3, none⟩ = some (.slice s.P1 m.p1.length s.P1c) ∧ w'.cell? ⟨W.heap.size, 4, none⟩ = some (.slice s.Ar m.ar.length s.Arc) ∧ w'.cell? ⟨W.heap.size, 5, none⟩ = some (.int .i64 m.cnt) ∧ w'.cell? ⟨W.heap.size, 6, none⟩ = some (.bool m.dn) ∧ w'.cell? ⟨W.heap.size, 7, none⟩ = some (.int .i64 m.wr)) (ds := [10]) #[false, false, false, false, false, false, false, false, false, false, false, false] (by kernel_rfl) rfl rfl (rc_cells HTc.out.two.box) (fun hHeld => ?_)
    refine pure_ (i := 1) (N := (some 24)) (v := ?_) (a' := ?_) #[false, true, false, false, false, false, false, false, false, false, false, false] rfl rfl (by kernel_rfl) (fun _ _ _ h => h) (Or.inl ⟨by rfl, ?_⟩) ?_ ?_
    rotate_left
    · intro w'
      go_simp
      with_reducible rfl
    rotate_left
    · simp only [Act.put, List.setIfInBounds_toArray, List.set_cons_zero, List.set_cons_succ, i64_w, i32_w]
      rfl
    refine pure_ (i := 3) (N := (some 26)) (v := ?_) (a' := ?_) #[false, true, false, true, false, false, false, false, false, false, false, false] rfl rfl (by kernel_rfl) (fun _ _ _ h => h) (Or.inl ⟨by rfl, ?_⟩) ?_ ?_
    rotate_left
    · intro w'
      go_simp
      with_reducible rfl
    rotate_left
    · simp only [Act.put, List.setIfInBounds_toArray, List.set_cons_zero, List.set_cons_succ, i64_w, i32_w]
      rfl
    refine pure_ (i := 6) (N := (some 29)) (v := ?_) (a' := ?_) #[false, true, false, true, false, false, true, false, false, false, false, false] rfl rfl (by kernel_rfl) (fun _ _ _ h => h) (Or.inl ⟨by rfl, ?_⟩) ?_ ?_
    rotate_left
    · intro w'
      go_simp
      with_reducible rfl
    rotate_left
    · simp only [Act.put, List.setIfInBounds_toArray, List.set_cons_zero, List.set_cons_succ, i64_w, i32_w]
      rfl
    refine take_ (i := 0) (N := (some 23)) (v := ?_) (a' := ?_) #[true, true, false, true, false, false, true, false, false, false, false, false] rfl rfl (by kernel_rfl) (fun _ _ _ h => h) (Or.inl ⟨by rfl, ?_⟩) hHeld ?_ ?_
    rotate_left
    · rintro w' ⟨s0, s1, s2, s3, s4, s5, s6, s7⟩
      go_simp
      with_reducible rfl
    rotate_left
    · simp only [Act.put, List.setIfInBounds_toArray, List.set_cons_zero, List.set_cons_succ, i64_w, i32_w]
      rfl
    refine take_ (i := 2) (N := (some 25)) (v := ?_) (a' := ?_) #[true, true, true, true, false, false, true, false, false, false, false, false] rfl rfl (by kernel_rfl) (fun _ _ _ h => h) (Or.inl ⟨by rfl, ?_⟩) hHeld ?_ ?_
    rotate_left
    · rintro w' ⟨s0, s1, s2, s3, s4, s5, s6, s7⟩
      go_simp
      with_reducible rfl
    rotate_left
    · simp only [Act.put, List.setIfInBounds_toArray, List.set_cons_zero, List.set_cons_succ, i64_w, i32_w]
      rfl
    refine take_ (i := 5) (N := (some 28)) (v := ?_) (a' := ?_) #[true, true, true, true, false, true, true, false, false, false, false, false] rfl rfl (by kernel_rfl) (fun _ _ _ h => h) (Or.inl ⟨by rfl, ?_⟩) hHeld ?_ ?_
    rotate_left
    · rintro w' ⟨s0, s1, s2, s3, s4, s5, s6, s7⟩
      go_simp
      with_reducible rfl
    rotate_left
    · simp only [Act.put, List.setIfInBounds_toArray, List.set_cons_zero, List.set_cons_succ, i64_w, i32_w]
      rfl
    refine one_ (i := 4) (N := (some 27)) #[true, true, true, true, true, true, true, false, false, false, false, false] rfl rfl (by kernel_rfl) (by decide) (fun K hK => ?_)
    refine goes_ Try.func59 (by kernel_rfl) rfl #[.agg (RC s m), .int .i64 n] (by rfl) rfl rfl (by (try simp only [List.map_toArray, List.map_cons, List.map_nil]); first | done | rfl | (simp only [List.length_drop, List.length_take]; rfl)) ?_
    with_reducible refine (durable_n s m _ n).mono ?_
    rintro e w2 ⟨rfl, hb⟩
    refine ⟨_, rfl, ?_⟩
    have HTc := Aside0.mk (HTc.out.next hb)
    clear hb
    refine hK.out _ _ (rc_cells HTc.out.two.box) (fun hHeld => ?_)
    clear hK K
    refine norm_ (a' := ?_) ?_ ?_
    rotate_left
    · show Act.put _ (some 27) _ = _
      simp only [Act.put, List.setIfInBounds_toArray, List.set_cons_zero, List.set_cons_succ, i64_w, i32_w]
      rfl
    refine one_ (i := 7) (N := (some 30)) #[true, true, true, true, true, true, true, true, false, false, false, false] rfl rfl (by kernel_rfl) (by decide) (fun K hK => ?_)
    refine goes_ Try.func60 (by kernel_rfl) rfl #[.agg (RC s m), .int .i64 n] (by rfl) rfl rfl (by (try simp only [List.map_toArray, List.map_cons, List.map_nil]); first | done | rfl | (simp only [List.length_drop, List.length_take]; rfl)) ?_
    with_reducible refine (pending_n s m _ n).mono ?_
    rintro e w2 ⟨rfl, hb⟩
    refine ⟨_, rfl, ?_⟩
    have HTc := Aside0.mk (HTc.out.next hb)
    clear hb
    refine hK.out _ _ (rc_cells HTc.out.two.box) (fun hHeld => ?_)
    clear hK K
    refine norm_ (a' := ?_) ?_ ?_
    rotate_left
    · show Act.put _ (some 30) _ = _
      simp only [Act.put, List.setIfInBounds_toArray, List.set_cons_zero, List.set_cons_succ, i64_w, i32_w]
      rfl
    refine one_ (i := 8) (N := (some 31)) #[true, true, true, true, true, true, true, true, true, false, false, false] rfl rfl (by kernel_rfl) (by decide) (fun K hK => ?_)
    refine goes_ Try.func58 (by kernel_rfl) rfl #[.slice (s.DA n) (m.dur n).length (s.Dc n), .slice (s.PA n) (m.pend n).length (s.Pc n)] (by rfl) rfl rfl (by (try simp only [List.map_toArray, List.map_cons, List.map_nil]); first | done | rfl | (simp only [List.length_drop, List.length_take]; rfl)) ?_
    with_reducible refine (joined_calls' HJ.out (f_now (HTc.out.rep.dF n)) (HTc.out.rep.dC n) (f_now (HTc.out.rep.pF n)) (HTc.out.rep.pC n) HLL.out).mono ?_
    rintro e w2 ⟨v, rfl, hf⟩
    refine ⟨_, rfl, ?_⟩
    obtain ⟨Bj, bj, rfl, hbj⟩ := Kd.R_slice_len hf.1
    have HFj := Aside0.mk (f_fresh (ok := ok) (blk_lt HTc.out.two.out) hf.1)
    have HBj := Aside0.mk hbj
    have HTc := Aside0.mk (HTc.out.next hf.2)
    clear hf hbj
    refine hK.out _ _ (rc_cells HTc.out.two.box) (fun hHeld => ?_)
    clear hK K
    refine norm_ (a' := ?_) ?_ ?_
    rotate_left
    · show Act.put _ (some 31) _ = _
      simp only [Act.put, List.setIfInBounds_toArray, List.set_cons_zero, List.set_cons_succ, i64_w, i32_w]
      rfl
    refine one_ (i := 9) (N := (some 32)) #[true, true, true, true, true, true, true, true, true, true, false, false] rfl rfl (by kernel_rfl) (by decide) (fun K hK => ?_)
    refine goes_ Try.func61 (by kernel_rfl) rfl #[.agg (RC s m), .int .i64 n, .slice Bj j.length bj, .slice none 0 0] (by rfl) rfl rfl (by (try simp only [List.map_toArray, List.map_cons, List.map_nil]); first | done | rfl | (simp only [List.length_drop, List.length_take]; rfl)) ?_
    with_reducible refine (with_nil s m _ n Bj bj j).mono ?_
    rintro e w2 ⟨rfl, hb⟩
    refine ⟨_, rfl, ?_⟩
    have HTc := Aside0.mk (HTc.out.next hb)
    have HFj := Aside0.mk (f_below HFj.out hb)
    clear hb
    refine hK.out _ _ (rc_cells HTc.out.two.box) (fun hHeld => ?_)
    clear hK K
    refine norm_ (a' := ?_) ?_ ?_
    rotate_left
    · show Act.put _ (some 32) _ = _
      simp only [Act.put, List.setIfInBounds_toArray, List.set_cons_zero, List.set_cons_succ, i64_w, i32_w]
      rfl
    refine last_ (i := 10) (N := none) #[true, true, true, true, true, true, true, true, true, true, true, false] rfl rfl (by kernel_rfl) (by decide) (fun K hK => ?_)
    obtain ⟨z0, z1, z2, z3, z4, z5, z6, z7⟩ := out_cells HTc.out.two
    have hfo := blk_frozen HTc.out.two.out
    refine skip_ (w1 := ?_) (by rfl) rfl ?_ ?_
    rotate_left
    · go_simp
      rfl
    refine hK.out _ _ ?_
    clear hK K z0 z1 z2 z3 z4 z5 z6 z7 hfo
    refine pure_ (i := 11) (N := (some 5)) (v := ?_) (a' := ?_) #[true, true, true, true, true, true, true, true, true, true, true, true] rfl rfl (by kernel_rfl) (fun _ _ _ h => h) (Or.inl ⟨by rfl, ?_⟩) ?_ ?_
    rotate_left
    · intro w'
      go_simp
      with_reducible rfl
    rotate_left
    · simp only [Act.put, List.setIfInBounds_toArray, List.set_cons_zero, List.set_cons_succ, i64_w, i32_w]
      rfl
    refine done_ (by kernel_rfl) ?_
    go_wp2
    exact bodyPost_ret (ret68t Try.results51 _ _ (W.heap.size + 1) (RC (s.with_ n Bj bj none 0) (m.with_ n j [])) rfl (HTc.out.done (HTc.out.rep.with_ n HFj.out HBj.out (f_nil _ _) (Nat.le_refl 0))).1 rfl) rfl (by rw [HB.out]; exact ⟨_, rfl, (HTc.out.done (HTc.out.rep.with_ n HFj.out HBj.out (f_nil _ _) (Nat.le_refl 0))).2⟩)
set_option maxHeartbeats 4000000 in
theorem rtrunc_go (h : RRep W ok s q) (hm : q.ok) (n : Int) (hn : ¬ badF n) (hd : q.dn = false) (size : Int) : Calls Try.prog 52 #[.agg (RC s q), .int .i64 n, .int .i64 size] W (RPost W ok (q.trunc n size)) := by
  have hnd : ¬ q.dn = true := by rw [hd]; simp
  have HT := Aside0.mk (St.new h)
  have HNM := Aside0.mk (fun w => refused_ok s q w n hn hd)
  have HQO := Aside0.mk hm
  have HLN := Aside0.mk (hm.len n)
  obtain ⟨j, hj⟩ : ∃ j : List Int, j = q.dur n ++ q.pend n := ⟨_, rfl⟩
  have hjl : j.length = (q.dur n).length + (q.pend n).length := by rw [hj, List.length_append]
  have HE := Aside0.mk (show q.trunc n size = if size < 0 ∨ (j.length : Int) < size then (q, 2) else q.fin (fun p => p.with_ n (j.take size.toNat) []) by unfold RM.trunc; rw [if_neg hn, if_neg hnd, hj, List.length_append])
  have HJ := Aside0.mk hj
  have HLL := Aside0.mk (show (q.dur n).length + (q.pend n).length ≤ 140737488355328 by have := HLN.out; omega)
  have HJL := Aside0.mk (show j.length ≤ 140737488355328 by rw [hjl]; exact HLL.out)
  clear h hm hn hd hnd hj hjl
  go_enter Try.func52, Try.ntmps52
  go_upto_region 4 with (go_at_call 57; (with_reducible refine (HNM.out _).mono ?_); rintro e w1 ⟨rfl, hb1⟩; have ht := HT.out.next hb1; obtain ⟨x0, x1, x2, x3, x4, x5, x6, x7⟩ := rc_cells ht.two.box; have hfz := blk_frozen ht.two.box; have HT7 := Aside0.mk ht; clear ht hb1)
  clear x0 x1 x2 x3 x4 x5 x6 x7 hfz
  have HTc := Aside0.mk HT7.out.drew
  clear HT7
  refine start_ (n := 8) (S := fun w' => w'.cell? ⟨W.heap.size, 0, none⟩ = some (.slice s.D0 q.d0.length s.D0c) ∧ w'.cell? ⟨W.heap.size, 1, none⟩ = some (.slice s.D1 q.d1.length s.D1c) ∧ w'.cell? ⟨W.heap.size, 2, none⟩ = some (.slice s.P0 q.p0.length s.P0c) ∧ w'.cell? ⟨W.heap.size, 3, none⟩ = some (.slice s.P1 q.p1.length s.P1c) ∧ w'.cell? ⟨W.heap.size, 4, none⟩ = some (.slice s.Ar q.ar.length s.Arc) ∧ w'.cell? ⟨W.heap.size, 5, none⟩ = some (.int .i64 q.cnt) ∧ w'.cell? ⟨W.heap.size, 6, none⟩ = some (.bool q.dn) ∧ w'.cell? ⟨W.heap.size, 7, none⟩ = some (.int .i64 q.wr)) (ds := []) #[false, false, false, false, false, false, false, false] (by kernel_rfl) rfl rfl (rc_cells HTc.out.two.box) (fun hHeld => ?_)
  refine pure_ (i := 1) (N := (some 19)) (v := ?_) (a' := ?_) #[false, true, false, false, false, false, false, false] rfl rfl (by kernel_rfl) (fun _ _ _ h => h) (Or.inl ⟨by rfl, ?_⟩) ?_ ?_
  rotate_left
  · intro w'
    go_simp
    with_reducible rfl
  rotate_left
  · simp only [Act.put, List.setIfInBounds_toArray, List.set_cons_zero, List.set_cons_succ, i64_w, i32_w]
    rfl
  refine pure_ (i := 4) (N := (some 22)) (v := ?_) (a' := ?_) #[false, true, false, false, true, false, false, false] rfl rfl (by kernel_rfl) (fun _ _ _ h => h) (Or.inl ⟨by rfl, ?_⟩) ?_ ?_
  rotate_left
  · intro w'
    go_simp
    with_reducible rfl
  rotate_left
  · simp only [Act.put, List.setIfInBounds_toArray, List.set_cons_zero, List.set_cons_succ, i64_w, i32_w]
    rfl
  refine take_ (i := 0) (N := (some 18)) (v := ?_) (a' := ?_) #[true, true, false, false, true, false, false, false] rfl rfl (by kernel_rfl) (fun _ _ _ h => h) (Or.inl ⟨by rfl, ?_⟩) hHeld ?_ ?_
  rotate_left
  · rintro w' ⟨s0, s1, s2, s3, s4, s5, s6, s7⟩
    go_simp
    with_reducible rfl
  rotate_left
  · simp only [Act.put, List.setIfInBounds_toArray, List.set_cons_zero, List.set_cons_succ, i64_w, i32_w]
    rfl
  refine take_ (i := 3) (N := (some 21)) (v := ?_) (a' := ?_) #[true, true, false, true, true, false, false, false] rfl rfl (by kernel_rfl) (fun _ _ _ h => h) (Or.inl ⟨by rfl, ?_⟩) hHeld ?_ ?_
  rotate_left
  · rintro w' ⟨s0, s1, s2, s3, s4, s5, s6, s7⟩
    go_simp
    with_reducible rfl
  rotate_left
  · simp only [Act.put, List.setIfInBounds_toArray, List.set_cons_zero, List.set_cons_succ, i64_w, i32_w]
    rfl
  refine one_ (i := 2) (N := (some 20)) #[true, true, true, true, true, false, false, false] rfl rfl (by kernel_rfl) (by decide) (fun K hK => ?_)
  refine goes_ Try.func59 (by kernel_rfl) rfl #[.agg (RC s q), .int .i64 n] (by rfl) rfl rfl (by (try simp only [List.map_toArray, List.map_cons, List.map_nil]); first | done | rfl | (simp only [List.length_drop, List.length_take]; rfl)) ?_
  with_reducible refine (durable_n s q _ n).mono ?_
  rintro e w2 ⟨rfl, hb⟩
  refine ⟨_, rfl, ?_⟩
  have HTc := Aside0.mk (HTc.out.next hb)
  clear hb
  refine hK.out _ _ (rc_cells HTc.out.two.box) (fun hHeld => ?_)
  clear hK K
  refine norm_ (a' := ?_) ?_ ?_
  rotate_left
  · show Act.put _ (some 20) _ = _
    simp only [Act.put, List.setIfInBounds_toArray, List.set_cons_zero, List.set_cons_succ, i64_w, i32_w]
    rfl
  refine one_ (i := 5) (N := (some 23)) #[true, true, true, true, true, true, false, false] rfl rfl (by kernel_rfl) (by decide) (fun K hK => ?_)
  refine goes_ Try.func60 (by kernel_rfl) rfl #[.agg (RC s q), .int .i64 n] (by rfl) rfl rfl (by (try simp only [List.map_toArray, List.map_cons, List.map_nil]); first | done | rfl | (simp only [List.length_drop, List.length_take]; rfl)) ?_
  with_reducible refine (pending_n s q _ n).mono ?_
  rintro e w2 ⟨rfl, hb⟩
  refine ⟨_, rfl, ?_⟩
  have HTc := Aside0.mk (HTc.out.next hb)
  clear hb
  refine hK.out _ _ (rc_cells HTc.out.two.box) (fun hHeld => ?_)
  clear hK K
  refine norm_ (a' := ?_) ?_ ?_
  rotate_left
  · show Act.put _ (some 23) _ = _
    simp only [Act.put, List.setIfInBounds_toArray, List.set_cons_zero, List.set_cons_succ, i64_w, i32_w]
    rfl
  refine one_ (i := 6) (N := (some 24)) #[true, true, true, true, true, true, true, false] rfl rfl (by kernel_rfl) (by decide) (fun K hK => ?_)
  refine goes_ Try.func58 (by kernel_rfl) rfl #[.slice (s.DA n) (q.dur n).length (s.Dc n), .slice (s.PA n) (q.pend n).length (s.Pc n)] (by rfl) rfl rfl (by (try simp only [List.map_toArray, List.map_cons, List.map_nil]); first | done | rfl | (simp only [List.length_drop, List.length_take]; rfl)) ?_
  with_reducible refine (joined_calls' HJ.out (f_now (HTc.out.rep.dF n)) (HTc.out.rep.dC n) (f_now (HTc.out.rep.pF n)) (HTc.out.rep.pC n) HLL.out).mono ?_
  rintro e w2 ⟨v, rfl, hf⟩
  refine ⟨_, rfl, ?_⟩
  obtain ⟨Bj, bj, rfl, hbj⟩ := Kd.R_slice_len hf.1
  have HFj := Aside0.mk (f_fresh (ok := ok) (blk_lt HTc.out.two.out) hf.1)
  have HBj := Aside0.mk hbj
  have HTc := Aside0.mk (HTc.out.next hf.2)
  clear hf hbj
  refine hK.out _ _ (rc_cells HTc.out.two.box) (fun hHeld => ?_)
  clear hK K
  refine norm_ (a' := ?_) ?_ ?_
  rotate_left
  · show Act.put _ (some 24) _ = _
    simp only [Act.put, List.setIfInBounds_toArray, List.set_cons_zero, List.set_cons_succ, i64_w, i32_w]
    rfl
  refine pure_ (i := 7) (N := (some 9)) (v := ?_) (a' := ?_) #[true, true, true, true, true, true, true, true] rfl rfl (by kernel_rfl) (fun _ _ _ h => h) (Or.inl ⟨by rfl, ?_⟩) ?_ ?_
  rotate_left
  · intro w'
    go_simp
    with_reducible rfl
  rotate_left
  · simp only [Act.put, List.setIfInBounds_toArray, List.set_cons_zero, List.set_cons_succ, i64_w, i32_w]
    rfl
  refine done_ (by kernel_rfl) ?_
  go_upto_region 5 with fail
  refine gen_world (fun w2 => St W w2 ok s q ∧ Kd.F By w2 (okb W ok) Bj j.length j) ⟨HTc.out, HFj.out⟩ ?_
  rintro w2 ⟨ht2, hf2⟩
  have HT7 := Aside0.mk ht2
  have HFj := Aside0.mk hf2
  clear ht2 hf2 HTc HT
  obtain ⟨x0, x1, x2, x3, x4, x5, x6, x7⟩ := rc_cells HT7.out.two.box
  obtain ⟨z0, z1, z2, z3, z4, z5, z6, z7⟩ := out_cells HT7.out.two
  have hfz0 := blk_frozen HT7.out.two.box
  have hfo0 := blk_frozen HT7.out.two.out
  by_cases h0 : size < 0
  · have HB := Aside0.mk (show q.trunc n size = (q, 2) by rw [HE.out, if_pos (.inl h0)])
    have d0 : decide (size < 0) = true := decide_eq_true h0
    clear h0
    go_wp2
    exact bodyPost_ret (ret68t Try.results52 _ _ (W.heap.size + 1) (RC s q) rfl (HT7.out.done HT7.out.rep).1 rfl) rfl (by rw [HB.out]; exact ⟨s, rfl, (HT7.out.done HT7.out.rep).2⟩)
  have d0 : decide (size < 0) = false := decide_eq_false h0
  by_cases h1 : (j.length : Int) < size
  · have HB := Aside0.mk (show q.trunc n size = (q, 2) by rw [HE.out, if_pos (.inr h1)])
    have d1 : decide ((j.length : Int) < size) = true := decide_eq_true h1
    clear h0 h1
    go_wp2
    exact bodyPost_ret (ret68t Try.results52 _ _ (W.heap.size + 1) (RC s q) rfl (HT7.out.done HT7.out.rep).1 rfl) rfl (by rw [HB.out]; exact ⟨s, rfl, (HT7.out.done HT7.out.rep).2⟩)
  obtain ⟨z, rfl⟩ := Int.eq_ofNat_of_zero_le (show 0 ≤ size by omega)
  have d1 : decide ((j.length : Int) < (z : Int)) = false := decide_eq_false h1
  have d2 : decide (j.length < z) = false := decide_eq_false (by omega)
  have HA := Aside0.mk (show q.trunc n (z : Int) = q.fin (fun p => p.with_ n (j.take z) []) by rw [HE.out, if_neg (fun h_ => h_.elim h0 h1)]; rfl)
  clear h0 h1 z0 z1 z2 z3 z4 z5 z6 z7 hfo0
  cases hw : q.counted.2 with
  | true =>
    have HB := Aside0.mk (HA.out.trans (show q.fin _ = (q.counted.1.fallen, 51) by unfold RM.fin; rw [if_pos hw]))
    have HFL := Aside0.mk (counted_falls HQO.out hw)
    clear HA
    go_wp2_with (first | (go_at_call 62; (with_reducible refine (counted_any HT7.out.rep HQO.out).mono ?_); rintro e wc ⟨rfl, hbc⟩; have ht8 := HT7.out.next hbc; obtain ⟨x0, x1, x2, x3, x4, x5, x6, x7⟩ := rc_cells ht8.two.box; obtain ⟨z0, z1, z2, z3, z4, z5, z6, z7⟩ := out_cells ht8.two; have hfz := blk_frozen ht8.two.box; have hfo := blk_frozen ht8.two.out; have HT8 := Aside0.mk ht8; have HT9 := Aside0.mk (ht8.put (counted_rep ht8.rep)); clear ht8 hbc) | (go_at_call 63; (with_reducible refine (fallen_any HT9.out.rep HFL.out).mono ?_); rintro e wd ⟨s3, rfl, hr3, hbd⟩; have ht10 := HT9.out.next hbd; obtain ⟨y0, y1, y2, y3, y4, y5, y6, y7⟩ := out_cells ht10.two; have hfp := blk_frozen ht10.two.out; have HT10 := Aside0.mk ht10; have HR3 := Aside0.mk (okb_new hr3 (blk_lt HT9.out.two.out)); clear ht10 hbd hr3))
    exact bodyPost_ret (ret68t Try.results52 _ _ (W.heap.size + 1) (RC s3 q.counted.1.fallen) rfl (HT10.out.done HR3.out).1 rfl) rfl (by rw [HB.out]; exact ⟨s3, rfl, (HT10.out.done HR3.out).2⟩)
  | false =>
    have HB := Aside0.mk (HA.out.trans (show q.fin (fun p => p.with_ n (j.take z) []) = (q.counted.1.with_ n (j.take z) [], 0) by unfold RM.fin; rw [if_neg (by rw [hw]; simp)]))
    clear HA
    go_upto_region 10 with (first | (go_at_call 62; (with_reducible refine (counted_any HT7.out.rep HQO.out).mono ?_); rintro e wc ⟨rfl, hbc⟩; have ht8 := HT7.out.next hbc; obtain ⟨x0, x1, x2, x3, x4, x5, x6, x7⟩ := rc_cells ht8.two.box; obtain ⟨z0, z1, z2, z3, z4, z5, z6, z7⟩ := out_cells ht8.two; have hfz := blk_frozen ht8.two.box; have hfo := blk_frozen ht8.two.out; have HT8 := Aside0.mk ht8; have HT9 := Aside0.mk (ht8.put (counted_rep ht8.rep)); have HBC := Aside0.mk hbc; clear ht8 hbc))
    obtain ⟨m, hmq⟩ : ∃ m : RM, m = q.counted.1 := ⟨_, rfl⟩
    rw [← hmq] at HT9 HB
    obtain ⟨k, hk⟩ : ∃ k : List Int, k = j.take z := ⟨_, rfl⟩
    rw [← hk] at HB
    have HKJ := Aside0.mk hk
    clear hk x0 x1 x2 x3 x4 x5 x6 x7 hfz0 z0 z1 z2 z3 z4 z5 z6 z7 hfz hfo HT8 d0 d1 d2
    rw [← hmq]
    clear hmq
    refine gen_world (fun w2 => St W w2 ok s m ∧ Kd.F By w2 (okb W ok) Bj j.length j) ⟨HT9.out, f_put (f_below HFj.out HBC.out) _ _ _ _ _ _ _ _⟩ ?_
    rintro w2 ⟨ht2, hf2⟩
    have HTc := Aside0.mk ht2.drew
    have HFj := Aside0.mk (f_below hf2 (below_drew1 (Below.refl _ _)))
    clear ht2 hf2 HT9 HT7 HBC
    refine start_ (n := 8) (S := fun w' => w'.cell? ⟨W.heap.size, 0, none⟩ = some (.slice s.D0 m.d0.length s.D0c) ∧ w'.cell? ⟨W.heap.size, 1, none⟩ = some (.slice s.D1 m.d1.length s.D1c) ∧ w'.cell? ⟨W.heap.size, 2, none⟩ = some (.slice s.P0 m.p0.length s.P0c) ∧ w'.cell? ⟨W.heap.size, 3, none⟩ = some (.slice s.P1 m.p1.length s.P1c) ∧ w'.cell? ⟨W.heap.size, 4, none⟩ = some (.slice s.Ar m.ar.length s.Arc) ∧ w'.cell? ⟨W.heap.size, 5, none⟩ = some (.int .i64 m.cnt) ∧ w'.cell? ⟨W.heap.size, 6, none⟩ = some (.bool m.dn) ∧ w'.cell? ⟨W.heap.size, 7, none⟩ = some (.int .i64 m.wr)) (ds := [6]) #[false, false, false, false, false, false, false, false] (by kernel_rfl) rfl rfl (rc_cells HTc.out.two.box) (fun hHeld => ?_)
    refine pure_ (i := 1) (N := (some 43)) (v := ?_) (a' := ?_) #[false, true, false, false, false, false, false, false] rfl rfl (by kernel_rfl) (fun _ _ _ h => h) (Or.inl ⟨by rfl, ?_⟩) ?_ ?_
    rotate_left
    · intro w'
      go_simp
      with_reducible rfl
    rotate_left
    · simp only [Act.put, List.setIfInBounds_toArray, List.set_cons_zero, List.set_cons_succ, i64_w, i32_w]
      rfl
    refine pure_ (i := 2) (N := (some 44)) (v := ?_) (a' := ?_) #[false, true, true, false, false, false, false, false] rfl rfl (by kernel_rfl) (fun _ _ _ h => h) (Or.inl ⟨by rfl, ?_⟩) ?_ ?_
    rotate_left
    · intro w'
      go_simp
      with_reducible rfl
    rotate_left
    · simp only [Act.put, List.setIfInBounds_toArray, List.set_cons_zero, List.set_cons_succ, i64_w, i32_w]
      rfl
    refine pure_ (i := 3) (N := (some 45)) (v := ?_) (a' := ?_) #[false, true, true, true, false, false, false, false] rfl rfl (by kernel_rfl) (fun _ _ _ h => h) (Or.inl ⟨by rfl, ?_⟩) ?_ ?_
    rotate_left
    · intro w'
      go_simp
      with_reducible rfl
    rotate_left
    · simp only [Act.put, List.setIfInBounds_toArray, List.set_cons_zero, List.set_cons_succ, i64_w, i32_w]
      rfl
    refine take_ (i := 0) (N := (some 42)) (v := ?_) (a' := ?_) #[true, true, true, true, false, false, false, false] rfl rfl (by kernel_rfl) (fun _ _ _ h => h) (Or.inl ⟨by rfl, ?_⟩) hHeld ?_ ?_
    rotate_left
    · rintro w' ⟨s0, s1, s2, s3, s4, s5, s6, s7⟩
      go_simp
      with_reducible rfl
    rotate_left
    · simp only [Act.put, List.setIfInBounds_toArray, List.set_cons_zero, List.set_cons_succ, i64_w, i32_w]
      rfl
    refine one_ (i := 4) (N := (some 46)) #[true, true, true, true, true, false, false, false] rfl rfl (by kernel_rfl) (by decide) (fun K hK => ?_)
    refine goes_ Try.func46 (by kernel_rfl) rfl #[.slice Bj j.length bj, .int .i64 (z : Int)] (by rfl) rfl rfl (by (try simp only [List.map_toArray, List.map_cons, List.map_nil]); first | done | rfl | (simp only [List.length_drop, List.length_take]; rfl)) ?_
    with_reducible refine (upTo_calls' z HKJ.out (f_now HFj.out) HBj.out HJL.out).mono ?_
    rintro e w2 ⟨v, rfl, hf⟩
    refine ⟨_, rfl, ?_⟩
    obtain ⟨Bk, bk, rfl, hbk⟩ := Kd.R_slice_len hf.1
    have HFk := Aside0.mk (f_fresh (ok := ok) (blk_lt HTc.out.two.out) hf.1)
    have HBk := Aside0.mk hbk
    have HTc := Aside0.mk (HTc.out.next hf.2)
    clear hf hbk HFj HBj
    have HFj := HFk
    have HBj := HBk
    refine hK.out _ _ (rc_cells HTc.out.two.box) (fun hHeld => ?_)
    clear hK K
    refine norm_ (a' := ?_) ?_ ?_
    rotate_left
    · show Act.put _ (some 46) _ = _
      simp only [Act.put, List.setIfInBounds_toArray, List.set_cons_zero, List.set_cons_succ, i64_w, i32_w]
      rfl
    refine one_ (i := 5) (N := (some 47)) #[true, true, true, true, true, true, false, false] rfl rfl (by kernel_rfl) (by decide) (fun K hK => ?_)
    refine goes_ Try.func61 (by kernel_rfl) rfl #[.agg (RC s m), .int .i64 n, .slice Bk k.length bk, .slice none 0 0] (by rfl) rfl rfl (by (try simp only [List.map_toArray, List.map_cons, List.map_nil]); first | done | rfl | (simp only [List.length_drop, List.length_take]; rfl)) ?_
    with_reducible refine (with_nil s m _ n Bk bk k).mono ?_
    rintro e w2 ⟨rfl, hb⟩
    refine ⟨_, rfl, ?_⟩
    have HTc := Aside0.mk (HTc.out.next hb)
    have HFj := Aside0.mk (f_below HFj.out hb)
    clear hb
    refine hK.out _ _ (rc_cells HTc.out.two.box) (fun hHeld => ?_)
    clear hK K
    refine norm_ (a' := ?_) ?_ ?_
    rotate_left
    · show Act.put _ (some 47) _ = _
      simp only [Act.put, List.setIfInBounds_toArray, List.set_cons_zero, List.set_cons_succ, i64_w, i32_w]
      rfl
    refine last_ (i := 6) (N := none) #[true, true, true, true, true, true, true, false] rfl rfl (by kernel_rfl) (by decide) (fun K hK => ?_)
    obtain ⟨z0, z1, z2, z3, z4, z5, z6, z7⟩ := out_cells HTc.out.two
    have hfo := blk_frozen HTc.out.two.out
    refine skip_ (w1 := ?_) (by rfl) rfl ?_ ?_
    rotate_left
    · go_simp
      rfl
    refine hK.out _ _ ?_
    clear hK K z0 z1 z2 z3 z4 z5 z6 z7 hfo
    refine pure_ (i := 7) (N := (some 7)) (v := ?_) (a' := ?_) #[true, true, true, true, true, true, true, true] rfl rfl (by kernel_rfl) (fun _ _ _ h => h) (Or.inl ⟨by rfl, ?_⟩) ?_ ?_
    rotate_left
    · intro w'
      go_simp
      with_reducible rfl
    rotate_left
    · simp only [Act.put, List.setIfInBounds_toArray, List.set_cons_zero, List.set_cons_succ, i64_w, i32_w]
      rfl
    refine done_ (by kernel_rfl) ?_
    go_wp2
    exact bodyPost_ret (ret68t Try.results52 _ _ (W.heap.size + 1) (RC (s.with_ n Bk bk none 0) (m.with_ n k [])) rfl (HTc.out.done (HTc.out.rep.with_ n HFj.out HBj.out (f_nil _ _) (Nat.le_refl 0))).1 rfl) rfl (by rw [HB.out]; exact ⟨_, rfl, (HTc.out.done (HTc.out.rep.with_ n HFj.out HBj.out (f_nil _ _) (Nat.le_refl 0))).2⟩)
end Go.Proofs.Yticokogggepfoaa.D
