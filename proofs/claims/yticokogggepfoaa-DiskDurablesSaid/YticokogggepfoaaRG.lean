/- The document's disk: a good file, of whichever number; Append. No condition but what it reads as. -/
import Derived.Test.YticokogggepfoaaRE
import Derived.Deep.DrawnRows
namespace Go.Proofs.Yticokogggepfoaa.D
open Go.RowKit Go.Proofs.YticokogggepfoaaW.PrintWords Go.Proofs.YticokogggepfoaaW.PrintLast Go.Proofs.YticokogggepfoaaW.PrintMore Go.Proofs.Yticokogggepfoaa.G
attribute [local go_sem] max2_int min2_int max_two min_two max_three min_three max_four min_four
set_option linter.unusedVariables false
set_option linter.unusedSimpArgs false
set_option maxRecDepth 100000
attribute [local go_sem ↓] Go.wp_at_zero Go.wp_at_succ
variable {W : World} {ok : Nat → Prop} {s : RS} {m : RM}
/-! ### Where a file's bytes lie, by its number -/
def RS.DA (s : RS) (n : Int) : Option Addr := if n = 0 then s.D0 else s.D1
def RS.Dc (s : RS) (n : Int) : Nat := if n = 0 then s.D0c else s.D1c
def RS.PA (s : RS) (n : Int) : Option Addr := if n = 0 then s.P0 else s.P1
def RS.Pc (s : RS) (n : Int) : Nat := if n = 0 then s.P0c else s.P1c
theorem dv_eq (s : RS) (m : RM) (n : Int) : s.dv m n = .slice (s.DA n) (m.dur n).length (s.Dc n) := by unfold RS.dv RS.DA RM.dur RS.Dc; split <;> rfl
theorem pv_eq (s : RS) (m : RM) (n : Int) : s.pv m n = .slice (s.PA n) (m.pend n).length (s.Pc n) := by unfold RS.pv RS.PA RM.pend RS.Pc; split <;> rfl
theorem durable_n (s : RS) (m : RM) (W : World) (n : Int) : Calls Try.prog 59 #[.agg (RC s m), .int .i64 n] W fun e W' => e = .returned (.slice (s.DA n) (m.dur n).length (s.Dc n)) ∧ Below W.heap.size W W' := by
  have h := durable_calls s m W n; rwa [dv_eq] at h
theorem pending_n (s : RS) (m : RM) (W : World) (n : Int) : Calls Try.prog 60 #[.agg (RC s m), .int .i64 n] W fun e W' => e = .returned (.slice (s.PA n) (m.pend n).length (s.Pc n)) ∧ Below W.heap.size W W' := by
  have h := pending_calls s m W n; rwa [pv_eq] at h
theorem RRep.dF (h : RRep W ok s m) (n : Int) : Kd.F By W ok (s.DA n) (m.dur n).length (m.dur n) := by
  unfold RS.DA RM.dur; split
  · exact h.d0
  · exact h.d1
theorem RRep.dC (h : RRep W ok s m) (n : Int) : (m.dur n).length ≤ s.Dc n := by
  unfold RS.Dc RM.dur; split
  · exact h.d0c
  · exact h.d1c
theorem RRep.pF (h : RRep W ok s m) (n : Int) : Kd.F By W ok (s.PA n) (m.pend n).length (m.pend n) := by
  unfold RS.PA RM.pend; split
  · exact h.p0
  · exact h.p1
theorem RRep.pC (h : RRep W ok s m) (n : Int) : (m.pend n).length ≤ s.Pc n := by
  unfold RS.Pc RM.pend; split
  · exact h.p0c
  · exact h.p1c
theorem RRep.with_ (h : RRep W ok s m) (n : Int) {A B : Option Addr} {ac bc : Nat} {a b : List Int} (hA : Kd.F By W ok A a.length a) (hac : a.length ≤ ac) (hB : Kd.F By W ok B b.length b) (hbc : b.length ≤ bc) : RRep W ok (s.with_ n A ac B bc) (m.with_ n a b) := by
  unfold RS.with_ RM.with_
  by_cases hn : n = 0
  · rw [if_pos hn, if_pos hn]; exact ⟨hA, hac, h.d1, h.d1c, hB, hbc, h.p1, h.p1c, h.ar, h.arc⟩
  · rw [if_neg hn, if_neg hn]; exact ⟨h.d0, h.d0c, hA, hac, h.p0, h.p0c, hB, hbc, h.ar, h.arc⟩
theorem RM.ok.len (h : m.ok) (n : Int) : (m.dur n).length + (m.pend n).length ≤ 16777216 := by
  unfold RM.dur RM.pend; split
  · exact h.l0
  · exact h.l1
theorem RM.ok.with_ (h : m.ok) (n : Int) {a b : List Int} (hl : a.length + b.length ≤ 16777216) : (m.with_ n a b).ok := by
  unfold RM.with_; split
  · exact ⟨hl, h.l1, h.la, h.ha, h.c0, h.c1, h.c2⟩
  · exact ⟨h.l0, hl, h.la, h.ha, h.c0, h.c1, h.c2⟩
/-! ### The counted write -/
theorem counted_rep {w : World} {o : Nat → Prop} {s : RS} {q : RM} (h : RRep w o s q) : RRep w o s q.counted.1 := by
  have e : q.counted.1.d0 = q.d0 ∧ q.counted.1.d1 = q.d1 ∧ q.counted.1.p0 = q.p0 ∧ q.counted.1.p1 = q.p1 ∧ q.counted.1.ar = q.ar := by unfold RM.counted; split <;> simp_all
  obtain ⟨e0, e1, e2, e3, e4⟩ := e
  exact ⟨e0 ▸ h.d0, e0 ▸ h.d0c, e1 ▸ h.d1, e1 ▸ h.d1c, e2 ▸ h.p0, e2 ▸ h.p0c, e3 ▸ h.p1, e3 ▸ h.p1c, e4 ▸ h.ar, e4 ▸ h.arc⟩
structure Falls (q : RM) : Prop where
  ar : ∃ a r, q.ar = a :: r ∧ 0 ≤ a.2 ∧ r.length ≤ 1000
  l0 : q.d0.length + q.p0.length ≤ 16777216
  l1 : q.d1.length + q.p1.length ≤ 16777216
theorem counted_falls {q : RM} (hq : q.ok) (h : q.counted.2 = true) : Falls q.counted.1 := by
  have e : q.counted.1.d0 = q.d0 ∧ q.counted.1.d1 = q.d1 ∧ q.counted.1.p0 = q.p0 ∧ q.counted.1.p1 = q.p1 ∧ q.counted.1.ar = q.ar := by unfold RM.counted; split <;> simp_all
  obtain ⟨e0, e1, e2, e3, e4⟩ := e
  refine ⟨?_, by rw [e0, e2]; exact hq.l0, by rw [e1, e3]; exact hq.l1⟩
  rw [e4]
  cases har : q.ar with
  | nil => unfold RM.counted at h; rw [har] at h; simp at h
  | cons a r => exact ⟨a, r, rfl, (hq.ha a (by rw [har]; simp)).2.2.1, by have := hq.la; rw [har, List.length_cons] at this; omega⟩
theorem fallen_any {w : World} {o : Nat → Prop} {s : RS} {q : RM} (h : RRep w o s q) (hf : Falls q) : Calls Try.prog 63 #[.agg (RC s q)] w fun e W' => ∃ s', e = .returned (.agg (RC s' q.fallen)) ∧ RRep W' (fun k => o k ∨ w.heap.size ≤ k) s' q.fallen ∧ Below w.heap.size w W' := by
  obtain ⟨a, r, har, h1, h2⟩ := hf.ar
  exact rfallen_calls s q w o h har h1 h2 hf.l0 hf.l1
theorem okb_new {W w1 w2 : World} {ok : Nat → Prop} {s' : RS} {m' : RM} (h : RRep w2 (fun k => okb W ok k ∨ w1.heap.size ≤ k) s' m') (hlt : W.heap.size + 1 < w1.heap.size) : RRep w2 (okb W ok) s' m' :=
  h.mono (fun k hk => hk.elim id (fun h2 => ⟨.inr (by omega), by omega, by omega⟩))
theorem counted_any {w : World} {o : Nat → Prop} {s : RS} {q : RM} (h : RRep w o s q) (hq : q.ok) : Calls Try.prog 62 #[.agg (RC s q)] w fun e W' => e = .returned (.tuple #[.agg (RC s q.counted.1), .bool q.counted.2]) ∧ Below w.heap.size w W' := counted_calls s q w o h hq.c0 hq.cnt
theorem full_eq (a b c : Nat) (ha : a + b ≤ 16777216) (hc : c ≤ 140737488355320) : Value.bool (decide ((16777216 : Int) < IntKind.i64.wrap (IntKind.i64.wrap ((a : Int) + (b : Int)) + (c : Int)))) = .bool (decide (16777216 < a + b + c)) := by
  rw [i64_w, i64_w, show wrap64 (wrap64 ((a : Int) + (b : Int)) + (c : Int)) = ((a + b + c : Nat) : Int) by unfold wrap64; omega]
  congr 1; simp only [decide_eq_decide]; omega
set_option maxHeartbeats 4000000 in
theorem rappend_go (h : RRep W ok s m) (hm : m.ok) (n : Int) (hn : ¬ badF n) (hd : m.dn = false) (Ad : Option Addr) (cd : Nat) (data : List Int) (hC : Kd.C By W Ad data.length data) (hdc : data.length ≤ cd) (hdl : data.length ≤ 140737488355320) :
    Calls Try.prog 50 #[.agg (RC s m), .int .i64 n, .slice Ad data.length cd] W (RPost W ok (m.append n data)) := by
  have hnd : ¬ m.dn = true := by rw [hd]; simp
  have HT := Aside0.mk (St.new h)
  have hnm := fun w => refused_ok s m w n hn hd
  have HC := Aside0.mk hC
  have HDC := Aside0.mk hdc
  have HM := Aside0.mk hm
  have HDL := Aside0.mk hdl
  have HLN := Aside0.mk (hm.len n)
  have HNM := Aside0.mk hnm
  have HE := Aside0.mk (show m.append n data = if 16777216 < (m.dur n).length + (m.pend n).length + data.length then (m, 52) else (m.with_ n (m.dur n) (m.pend n ++ data)).fin id by unfold RM.append; rw [if_neg hn, if_neg hnd])
  clear h hm hn hd hnd hC hdc hdl hnm
  go_enter Try.func50, Try.ntmps50
  go_upto_region 4 with (go_at_call 57; (with_reducible refine (HNM.out _).mono ?_); rintro e w1 ⟨rfl, hb1⟩; have ht := HT.out.next hb1; obtain ⟨x0, x1, x2, x3, x4, x5, x6, x7⟩ := rc_cells ht.two.box; have hfz := blk_frozen ht.two.box; have HT1 := Aside0.mk ht; clear ht hb1)
  go_cut [29] (fun v wx => v = .bool (decide (16777216 < (m.dur n).length + (m.pend n).length + data.length)) ∧ Aside0 (St W wx ok s m))
  case first =>
    have HTc := HT1
    go_region_held3 (fun w' => w'.cell? ⟨W.heap.size, 0, none⟩ = some (.slice s.D0 m.d0.length s.D0c) ∧ w'.cell? ⟨W.heap.size, 1, none⟩ = some (.slice s.D1 m.d1.length s.D1c) ∧ w'.cell? ⟨W.heap.size, 2, none⟩ = some (.slice s.P0 m.p0.length s.P0c) ∧ w'.cell? ⟨W.heap.size, 3, none⟩ = some (.slice s.P1 m.p1.length s.P1c) ∧ w'.cell? ⟨W.heap.size, 4, none⟩ = some (.slice s.Ar m.ar.length s.Arc) ∧ w'.cell? ⟨W.heap.size, 5, none⟩ = some (.int .i64 m.cnt) ∧ w'.cell? ⟨W.heap.size, 6, none⟩ = some (.bool m.dn) ∧ w'.cell? ⟨W.heap.size, 7, none⟩ = some (.int .i64 m.wr)) (first | exact rc_cells HTc.out.two.box | exact rc_cells HTc.out.drew.two.box) (first
      | (go_at_call 59; (with_reducible refine (durable_n s m _ n).mono ?_); rintro e wa ⟨rfl, hba⟩; have HTc := Aside0.mk (show St W wa ok s m by first | exact HTc.out.next hba | exact HTc.out.drew.next hba); clear hba)
      | (go_at_call 60; (with_reducible refine (pending_n s m _ n).mono ?_); rintro e wb ⟨rfl, hbb⟩; have HTc := Aside0.mk (show St W wb ok s m by first | exact HTc.out.next hbb | exact HTc.out.drew.next hbb); clear hbb)
      | fail)
    all_goals
      go_wp2_with fail
      go_meet
      exact ⟨full_eq _ _ _ HLN.out HDL.out, HTc⟩
  case rest =>
    obtain ⟨rfl, HT4⟩ := hcut
    clear x0 x1 x2 x3 x4 x5 x6 x7 hfz HT1
    obtain ⟨x0, x1, x2, x3, x4, x5, x6, x7⟩ := rc_cells HT4.out.two.box
    obtain ⟨z0, z1, z2, z3, z4, z5, z6, z7⟩ := out_cells HT4.out.two
    have hfz := blk_frozen HT4.out.two.box
    have hfo := blk_frozen HT4.out.two.out
    by_cases hfull : 16777216 < (m.dur n).length + (m.pend n).length + data.length
    · have HA := Aside0.mk (show m.append n data = (m, 52) by rw [HE.out, if_pos hfull])
      rw [decide_eq_true hfull]
      clear hfull
      go_wp2
      exact bodyPost_ret (ret68t Try.results50 _ _ (W.heap.size + 1) (RC s m) rfl (HT4.out.done HT4.out.rep).1 rfl) rfl (by rw [HA.out]; exact ⟨s, rfl, (HT4.out.done HT4.out.rep).2⟩)
    · have HA := Aside0.mk (show m.append n data = (m.with_ n (m.dur n) (m.pend n ++ data)).fin id by rw [HE.out, if_neg hfull])
      rw [decide_eq_false hfull]
      obtain ⟨j, hj⟩ : ∃ j : List Int, j = m.pend n ++ data := ⟨_, rfl⟩
      rw [← hj] at HA
      have HJ := Aside0.mk hj
      obtain ⟨q, hq⟩ : ∃ q : RM, q = m.with_ n (m.dur n) j := ⟨_, rfl⟩
      have HQ := Aside0.mk hq
      have HQO := Aside0.mk (show q.ok by rw [hq, hj]; exact HM.out.with_ n (by rw [List.length_append]; omega))
      rw [← hq] at HA
      have HLL := Aside0.mk (show (m.pend n).length + data.length ≤ 140737488355328 by have := HLN.out; have := HDL.out; omega)
      clear hfull hj hq z0 z1 z2 z3 z4 z5 z6 z7 hfo
      go_upto_region 6 with fail
      go_cut [] (fun wx => ∃ s2 : RS, Aside0 (St W wx ok s2 q))
      case first =>
        have HTc := Aside0.mk HT4.out.drew
        refine start_ (n := 12) (S := fun w' => w'.cell? ⟨W.heap.size, 0, none⟩ = some (.slice s.D0 m.d0.length s.D0c) ∧ w'.cell? ⟨W.heap.size, 1, none⟩ = some (.slice s.D1 m.d1.length s.D1c) ∧ w'.cell? ⟨W.heap.size, 2, none⟩ = some (.slice s.P0 m.p0.length s.P0c) ∧ w'.cell? ⟨W.heap.size, 3, none⟩ = some (.slice s.P1 m.p1.length s.P1c) ∧ w'.cell? ⟨W.heap.size, 4, none⟩ = some (.slice s.Ar m.ar.length s.Arc) ∧ w'.cell? ⟨W.heap.size, 5, none⟩ = some (.int .i64 m.cnt) ∧ w'.cell? ⟨W.heap.size, 6, none⟩ = some (.bool m.dn) ∧ w'.cell? ⟨W.heap.size, 7, none⟩ = some (.int .i64 m.wr)) (ds := [11]) #[false, false, false, false, false, false, false, false, false, false, false, false] (by kernel_rfl) rfl rfl (rc_cells HTc.out.two.box) (fun hHeld => ?_)
        refine pure_ (i := 1) (N := (some 32)) (v := ?_) (a' := ?_) #[false, true, false, false, false, false, false, false, false, false, false, false] rfl rfl (by kernel_rfl) (fun _ _ _ h => h) (Or.inl ⟨by rfl, ?_⟩) ?_ ?_
        rotate_left
        · intro w'
          go_simp
          with_reducible rfl
        rotate_left
        · simp only [Act.put, List.setIfInBounds_toArray, List.set_cons_zero, List.set_cons_succ, i64_w, i32_w]
          rfl
        refine pure_ (i := 3) (N := (some 34)) (v := ?_) (a' := ?_) #[false, true, false, true, false, false, false, false, false, false, false, false] rfl rfl (by kernel_rfl) (fun _ _ _ h => h) (Or.inl ⟨by rfl, ?_⟩) ?_ ?_
        rotate_left
        · intro w'
          go_simp
          with_reducible rfl
        rotate_left
        · simp only [Act.put, List.setIfInBounds_toArray, List.set_cons_zero, List.set_cons_succ, i64_w, i32_w]
          rfl
        refine pure_ (i := 6) (N := (some 37)) (v := ?_) (a' := ?_) #[false, true, false, true, false, false, true, false, false, false, false, false] rfl rfl (by kernel_rfl) (fun _ _ _ h => h) (Or.inl ⟨by rfl, ?_⟩) ?_ ?_
        rotate_left
        · intro w'
          go_simp
          with_reducible rfl
        rotate_left
        · simp only [Act.put, List.setIfInBounds_toArray, List.set_cons_zero, List.set_cons_succ, i64_w, i32_w]
          rfl
        refine pure_ (i := 8) (N := (some 39)) (v := ?_) (a' := ?_) #[false, true, false, true, false, false, true, false, true, false, false, false] rfl rfl (by kernel_rfl) (fun _ _ _ h => h) (Or.inl ⟨by rfl, ?_⟩) ?_ ?_
        rotate_left
        · intro w'
          go_simp
          with_reducible rfl
        rotate_left
        · simp only [Act.put, List.setIfInBounds_toArray, List.set_cons_zero, List.set_cons_succ, i64_w, i32_w]
          rfl
        refine take_ (i := 0) (N := (some 31)) (v := ?_) (a' := ?_) #[true, true, false, true, false, false, true, false, true, false, false, false] rfl rfl (by kernel_rfl) (fun _ _ _ h => h) (Or.inl ⟨by rfl, ?_⟩) hHeld ?_ ?_
        rotate_left
        · rintro w' ⟨s0, s1, s2, s3, s4, s5, s6, s7⟩
          go_simp
          with_reducible rfl
        rotate_left
        · simp only [Act.put, List.setIfInBounds_toArray, List.set_cons_zero, List.set_cons_succ, i64_w, i32_w]
          rfl
        refine take_ (i := 2) (N := (some 33)) (v := ?_) (a' := ?_) #[true, true, true, true, false, false, true, false, true, false, false, false] rfl rfl (by kernel_rfl) (fun _ _ _ h => h) (Or.inl ⟨by rfl, ?_⟩) hHeld ?_ ?_
        rotate_left
        · rintro w' ⟨s0, s1, s2, s3, s4, s5, s6, s7⟩
          go_simp
          with_reducible rfl
        rotate_left
        · simp only [Act.put, List.setIfInBounds_toArray, List.set_cons_zero, List.set_cons_succ, i64_w, i32_w]
          rfl
        refine take_ (i := 5) (N := (some 36)) (v := ?_) (a' := ?_) #[true, true, true, true, false, true, true, false, true, false, false, false] rfl rfl (by kernel_rfl) (fun _ _ _ h => h) (Or.inl ⟨by rfl, ?_⟩) hHeld ?_ ?_
        rotate_left
        · rintro w' ⟨s0, s1, s2, s3, s4, s5, s6, s7⟩
          go_simp
          with_reducible rfl
        rotate_left
        · simp only [Act.put, List.setIfInBounds_toArray, List.set_cons_zero, List.set_cons_succ, i64_w, i32_w]
          rfl
        refine one_ (i := 4) (N := (some 35)) #[true, true, true, true, true, true, true, false, true, false, false, false] rfl rfl (by kernel_rfl) (by decide) (fun K hK => ?_)
        refine goes_ Try.func59 (by kernel_rfl) rfl #[.agg (RC s m), .int .i64 n] (by rfl) rfl rfl (by (try simp only [List.map_toArray, List.map_cons, List.map_nil]); first | done | rfl | (simp only [List.length_drop, List.length_take]; rfl)) ?_
        with_reducible refine (durable_n s m _ n).mono ?_
        rintro e w2 ⟨rfl, hb⟩
        refine ⟨_, rfl, ?_⟩
        have HTc := Aside0.mk (HTc.out.next hb)
        clear hb
        refine hK.out _ _ (rc_cells HTc.out.two.box) (fun hHeld => ?_)
        clear hK K
        refine norm_ (a' := ?_) ?_ ?_
        rotate_left
        · show Act.put _ (some 35) _ = _
          simp only [Act.put, List.setIfInBounds_toArray, List.set_cons_zero, List.set_cons_succ, i64_w, i32_w]
          rfl
        refine one_ (i := 7) (N := (some 38)) #[true, true, true, true, true, true, true, true, true, false, false, false] rfl rfl (by kernel_rfl) (by decide) (fun K hK => ?_)
        refine goes_ Try.func60 (by kernel_rfl) rfl #[.agg (RC s m), .int .i64 n] (by rfl) rfl rfl (by (try simp only [List.map_toArray, List.map_cons, List.map_nil]); first | done | rfl | (simp only [List.length_drop, List.length_take]; rfl)) ?_
        with_reducible refine (pending_n s m _ n).mono ?_
        rintro e w2 ⟨rfl, hb⟩
        refine ⟨_, rfl, ?_⟩
        have HTc := Aside0.mk (HTc.out.next hb)
        clear hb
        refine hK.out _ _ (rc_cells HTc.out.two.box) (fun hHeld => ?_)
        clear hK K
        refine norm_ (a' := ?_) ?_ ?_
        rotate_left
        · show Act.put _ (some 38) _ = _
          simp only [Act.put, List.setIfInBounds_toArray, List.set_cons_zero, List.set_cons_succ, i64_w, i32_w]
          rfl
        refine one_ (i := 9) (N := (some 40)) #[true, true, true, true, true, true, true, true, true, true, false, false] rfl rfl (by kernel_rfl) (by decide) (fun K hK => ?_)
        refine goes_ Try.func58 (by kernel_rfl) rfl #[.slice (s.PA n) (m.pend n).length (s.Pc n), .slice Ad data.length cd] (by rfl) rfl rfl (by (try simp only [List.map_toArray, List.map_cons, List.map_nil]); first | done | rfl | (simp only [List.length_drop, List.length_take]; rfl)) ?_
        with_reducible refine (joined_calls' HJ.out (f_now (HTc.out.rep.pF n)) (HTc.out.rep.pC n) (Kd.C_below HC.out HTc.out.two.below) HDC.out HLL.out).mono ?_
        rintro e w2 ⟨v, rfl, hf⟩
        refine ⟨_, rfl, ?_⟩
        obtain ⟨Bj, bj, rfl, hbj⟩ := Kd.R_slice_len hf.1
        have HFj := Aside0.mk (f_fresh (ok := ok) (blk_lt HTc.out.two.out) hf.1)
        have HBj := Aside0.mk hbj
        have HTc := Aside0.mk (HTc.out.next hf.2)
        clear hf hbj
        refine hK.out _ _ (rc_cells HTc.out.two.box) (fun hHeld => ?_)
        clear hK K
        refine norm_ (a' := ?_) ?_ ?_
        rotate_left
        · show Act.put _ (some 40) _ = _
          simp only [Act.put, List.setIfInBounds_toArray, List.set_cons_zero, List.set_cons_succ, i64_w, i32_w]
          rfl
        refine one_ (i := 10) (N := (some 41)) #[true, true, true, true, true, true, true, true, true, true, true, false] rfl rfl (by kernel_rfl) (by decide) (fun K hK => ?_)
        refine goes_ Try.func61 (by kernel_rfl) rfl #[.agg (RC s m), .int .i64 n, .slice (s.DA n) (m.dur n).length (s.Dc n), .slice Bj j.length bj] (by rfl) rfl rfl (by (try simp only [List.map_toArray, List.map_cons, List.map_nil]); first | done | rfl | (simp only [List.length_drop, List.length_take]; rfl)) ?_
        with_reducible refine (with_calls s m _ n (s.DA n) (s.Dc n) (m.dur n) Bj bj j).mono ?_
        rintro e w2 ⟨rfl, hb⟩
        refine ⟨_, rfl, ?_⟩
        have HTc := Aside0.mk (HTc.out.next hb)
        have HFj := Aside0.mk (f_below HFj.out hb)
        clear hb
        refine hK.out _ _ (rc_cells HTc.out.two.box) (fun hHeld => ?_)
        clear hK K
        refine norm_ (a' := ?_) ?_ ?_
        rotate_left
        · show Act.put _ (some 41) _ = _
          simp only [Act.put, List.setIfInBounds_toArray, List.set_cons_zero, List.set_cons_succ, i64_w, i32_w]
          rfl
        refine last_ (i := 11) (N := none) #[true, true, true, true, true, true, true, true, true, true, true, true] rfl rfl (by kernel_rfl) (by decide) (fun K hK => ?_)
        obtain ⟨x0, x1, x2, x3, x4, x5, x6, x7⟩ := rc_cells HTc.out.two.box
        have hfz := blk_frozen HTc.out.two.box
        refine skip_ (w1 := ?_) (by rfl) rfl ?_ ?_
        rotate_left
        · go_simp
          rfl
        have HTc := Aside0.mk (HTc.out.put (HTc.out.rep.with_ n (HTc.out.rep.dF n) (HTc.out.rep.dC n) HFj.out HBj.out))
        refine hK.out _ _ ?_
        clear hK K x0 x1 x2 x3 x4 x5 x6 x7 hfz
        refine done_ (by kernel_rfl) ?_
        go_wp2_with fail
        go_meet
        exact ⟨_, ⟨by rw [HQ.out]; exact HTc.out⟩⟩
      case rest =>
        obtain ⟨s2, HT7⟩ := hcut
        clear x0 x1 x2 x3 x4 x5 x6 x7 hfz HT4
        obtain ⟨x0, x1, x2, x3, x4, x5, x6, x7⟩ := rc_cells HT7.out.two.box
        have hfz0 := blk_frozen HT7.out.two.box
        cases hw : q.counted.2 with
        | true =>
          have HB := Aside0.mk (HA.out.trans (show q.fin _ = (q.counted.1.fallen, 51) by unfold RM.fin; rw [if_pos hw]))
          have HFL := Aside0.mk (counted_falls HQO.out hw)
          clear HA
          go_wp2_with (first | (go_at_call 62; (with_reducible refine (counted_any HT7.out.rep HQO.out).mono ?_); rintro e wc ⟨rfl, hbc⟩; have ht8 := HT7.out.next hbc; obtain ⟨x0, x1, x2, x3, x4, x5, x6, x7⟩ := rc_cells ht8.two.box; obtain ⟨z0, z1, z2, z3, z4, z5, z6, z7⟩ := out_cells ht8.two; have hfz := blk_frozen ht8.two.box; have hfo := blk_frozen ht8.two.out; have HT8 := Aside0.mk ht8; have HT9 := Aside0.mk (ht8.put (counted_rep ht8.rep)); clear ht8 hbc) | (go_at_call 63; (with_reducible refine (fallen_any HT9.out.rep HFL.out).mono ?_); rintro e wd ⟨s3, rfl, hr3, hbd⟩; have ht10 := HT9.out.next hbd; obtain ⟨y0, y1, y2, y3, y4, y5, y6, y7⟩ := out_cells ht10.two; have hfp := blk_frozen ht10.two.out; have HT10 := Aside0.mk ht10; have HR3 := Aside0.mk (okb_new hr3 (blk_lt HT9.out.two.out)); clear ht10 hbd hr3))
          exact bodyPost_ret (ret68t Try.results50 _ _ (W.heap.size + 1) (RC s3 q.counted.1.fallen) rfl (HT10.out.done HR3.out).1 rfl) rfl (by rw [HB.out]; exact ⟨s3, rfl, (HT10.out.done HR3.out).2⟩)
        | false =>
          have HB := Aside0.mk (HA.out.trans (show q.fin id = (q.counted.1, 0) by unfold RM.fin; rw [if_neg (by rw [hw]; simp)]; rfl))
          clear HA
          go_wp2_with (first | (go_at_call 62; (with_reducible refine (counted_any HT7.out.rep HQO.out).mono ?_); rintro e wc ⟨rfl, hbc⟩; have ht8 := HT7.out.next hbc; obtain ⟨x0, x1, x2, x3, x4, x5, x6, x7⟩ := rc_cells ht8.two.box; obtain ⟨z0, z1, z2, z3, z4, z5, z6, z7⟩ := out_cells ht8.two; have hfz := blk_frozen ht8.two.box; have hfo := blk_frozen ht8.two.out; have HT8 := Aside0.mk ht8; have HT9 := Aside0.mk (ht8.put (counted_rep ht8.rep)); clear ht8 hbc))
          exact bodyPost_ret (ret68t Try.results50 _ _ (W.heap.size + 1) (RC s2 q.counted.1) rfl (HT9.out.done HT9.out.rep).1 rfl) rfl (by rw [HB.out]; exact ⟨s2, rfl, (HT9.out.done HT9.out.rep).2⟩)
end Go.Proofs.Yticokogggepfoaa.D
