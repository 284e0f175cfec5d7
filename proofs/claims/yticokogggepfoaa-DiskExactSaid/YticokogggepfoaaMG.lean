/- DiskExact: the script and four looks more: the walk. No condition but the lists' bulk. -/
import Derived.Test.YticokogggepfoaaMF
import Derived.Deep.CutBlock
namespace Go.Proofs.Yticokogggepfoaa.D
open Go.RowKit Go.Proofs.YticokogggepfoaaW.PrintWords Go.Proofs.YticokogggepfoaaW.PrintLast Go.Proofs.YticokogggepfoaaW.PrintMore Go.Proofs.Yticokogggepfoaa.G
attribute [local go_sem] max2_int min2_int max_two min_two max_three min_three max_four min_four
set_option linter.unusedVariables false
set_option linter.unusedSimpArgs false
set_option maxRecDepth 100000
def raw0 (m : OM) : List Value := [.int .i64 m.kd, .bool m.ot, .int .i64 m.fl, .int .i64 m.a, .int .i64 m.b, .slice none 0 0]
def exM (j : Nat) : List OM := (List.range j).flatMap (fun (f : Nat) => [⟨6, false, (f : Int), 0, 0, []⟩, ⟨6, true, (f : Int), 0, 0, []⟩])
theorem exM_succ (j : Nat) : exM (j + 1) = exM j ++ [⟨6, false, j, 0, 0, []⟩, ⟨6, true, j, 0, 0, []⟩] := by unfold exM; rw [List.range_succ, List.flatMap_append]; rfl
theorem exM_data (j : Nat) : ∀ m ∈ exM j, m.data = [] := by
  intro m hm
  unfold exM at hm
  obtain ⟨f, _, hf⟩ := List.mem_flatMap.1 hm
  simp only [List.mem_cons, List.not_mem_nil, or_false] at hf
  rcases hf with rfl | rfl <;> rfl
theorem exM_len (j : Nat) : (exM j).length = 2 * j := by
  induction j with
  | zero => rfl
  | succ j ih => rw [exM_succ, List.length_append, ih]; rfl
theorem raw0_K (w : World) (m : OM) (h : m.data = []) : OpK.K w m (raw0 m) := by
  have := k45_mk w (⟨m.kd, m.ot, m.fl, m.a, m.b, []⟩ : S45) (A5 := none) (c5 := 0) (Nat.le_refl 0) (Kd.C_nil _ _)
  obtain ⟨kd, ot, fl, ma, mb, data⟩ := m
  dsimp only at h
  subst h
  exact this
theorem raw0_raw (m : OM) : raw0 m = raw0 m ∧ (raw0 m).length = 6 ∧ ∀ u ∈ raw0 m, u.oneCell' = true := ⟨rfl, rfl, fun u hu => by simp only [raw0, List.mem_cons, List.not_mem_nil, or_false] at hu; rcases hu with rfl | rfl | rfl | rfl | rfl | rfl <;> rfl⟩
theorem reps2 (W : World) (base : Nat) (okp : Nat → Prop) {a b : OM} : Reps ((Kd.raw 6).M W base okp) 6 [raw0 a, raw0 b] (raw0 a ++ raw0 b) := ((Reps.none _ 6).snoc (raw0_raw a) rfl).snoc (raw0_raw b) rfl
theorem info45 : (Try.prog.info? 45).map (fun i => (i.zero, i.size, i.bytes)) = some (some (.agg #[.int .i64 0, .bool false, .int .i64 0, .int .i64 0, .int .i64 0, .slice none 0 0]), 6, 64) := by kernel_rfl
/-- The cells of a row of operations, as they are. -/
theorem rows_of {w : World} {A : Option Addr} {n : Nat} {ms : List OM} (h : Kd.C OpK w A n ms) : ∃ rows : List (List Value), rows.length = ms.length ∧ ReadsRow ((Kd.raw 6).K w) 6 w A n rows ∧ ∀ (i : Nat) (m : OM), ms[i]? = some m → ∃ cs, rows[i]? = some cs ∧ OpK.K w m cs := by
  by_cases hn : 0 < n
  · obtain ⟨ad, ha, hc⟩ := h.2.2 hn
    have hch : ∀ i : Fin ms.length, ∃ cs : List Value, cs.length = OpK.sz ∧ OpK.K w ms[i] cs ∧ ∀ j u, cs[j]? = some u → w.cell? (ad.add (i.1 * OpK.sz + j)) = some u := fun i => hc i.1 ms[i] (List.getElem?_eq_getElem i.2)
    refine ⟨List.ofFn (fun i => Classical.choose (hch i)), List.length_ofFn, ⟨by rw [List.length_ofFn]; exact h.1, h.2.1, fun _ => ⟨ad, ha, fun j p hj => ?_⟩⟩, fun i m hi => ?_⟩
    · rw [List.getElem?_ofFn] at hj
      split at hj
      · rename_i hlt
        injection hj with hj
        have hs := Classical.choose_spec (hch ⟨j, hlt⟩)
        rw [hj] at hs
        exact ⟨p, hs.1, ⟨rfl, hs.1, OpK.K_one hs.2.1⟩, hs.2.2⟩
      · cases hj
    · obtain ⟨hlt, rfl⟩ := List.getElem?_eq_some_iff.1 hi
      exact ⟨_, by rw [List.getElem?_ofFn, dif_pos hlt], (Classical.choose_spec (hch ⟨i, hlt⟩)).2.1⟩
  · have h0 : ms = [] := List.eq_nil_of_length_eq_zero (by have := h.1; omega)
    subst h0
    exact ⟨[], rfl, ⟨h.1, h.2.1, fun h_ => absurd h_ hn⟩, fun i m hi => by simp at hi⟩
/-- The script and what is laid behind it, read again. -/
theorem ops_of_rows {W w : World} {A : Option Addr} {rows : List (List Value)} {ms es : List OM} (hl : rows.length = ms.length) (hK : ∀ (i : Nat) (m : OM), ms[i]? = some m → ∃ cs, rows[i]? = some cs ∧ OpK.K W m cs) (hb : Below W.heap.size W w) (he : ∀ m ∈ es, m.data = [])
    (h : Kd.C (Kd.raw 6) w A (rows ++ es.map raw0).length (rows ++ es.map raw0)) : Kd.C OpK w A (ms ++ es).length (ms ++ es) := by
  have hlen : (rows ++ es.map raw0).length = (ms ++ es).length := by simp [hl]
  rw [hlen] at h
  refine ⟨rfl, h.2.1, fun hp => ?_⟩
  obtain ⟨ad, ha, hcell⟩ := h.2.2 hp
  refine ⟨ad, ha, fun j m hj => ?_⟩
  by_cases hlt : j < ms.length
  · rw [List.getElem?_append_left hlt] at hj
    obtain ⟨cs, h1, h2⟩ := hK j m hj
    obtain ⟨cs', h3, ⟨rfl, _, _⟩, h4⟩ := hcell j cs (by rw [List.getElem?_append_left (by omega)]; exact h1)
    exact ⟨_, h3, OpK.K_below hb h2, h4⟩
  · rw [List.getElem?_append_right (by omega)] at hj
    obtain ⟨cs', h3, ⟨rfl, _, _⟩, h4⟩ := hcell j (raw0 m) (by rw [List.getElem?_append_right (by omega), hl, List.getElem?_map, hj]; rfl)
    exact ⟨_, h3, raw0_K _ _ (he m (List.mem_of_getElem? hj)), h4⟩
set_option maxHeartbeats 4000000 in
theorem law_exact (W : World) (A0 A1 A2 : Option Addr) (c0 c1 c2 : Nat) (l0 l1 : List Int) (ms : List OM) (h0 : Kd.C By W A0 l0.length l0) (h0c : l0.length ≤ c0) (h0l : l0.length < 140737488355328) (h1 : Kd.C By W A1 l1.length l1) (h1c : l1.length ≤ c1) (h1l : l1.length < 140737488355328)
    (h2 : Kd.C OpK W A2 ms.length ms) (h2l : ms.length ≤ 2199023255488) (h2m : ∀ m ∈ ms, m.data.length < 140737488355000) : Calls Try.prog 9 #[.slice A0 l0.length c0, .slice A1 l1.length c1, .slice A2 ms.length c2] W fun e W' => e = .returned (.bool true) ∧ Below W.heap.size W W' := by
  have H0 := Aside0.mk h0
  have H1 := Aside0.mk h1
  have H2 := Aside0.mk h2
  have HM2 := Aside0.mk h2m
  have HL0 := Aside0.mk h0l
  have HL1 := Aside0.mk h1l
  clear h0 h1 h2 h2m h0l h1l
  obtain ⟨rows, hrl, hrr, hrk⟩ := rows_of H2.out
  have HRK := Aside0.mk hrk
  have HRR := Aside0.mk hrr
  have HRL := Aside0.mk hrl
  have h2l2 : rows.length ≤ 2199023255488 := by omega
  clear hrk hrr hrl
  go_enter Try.func9, Try.ntmps9
  have HBW := Aside0.mk (Below.refl W.heap.size W)
  obtain ⟨okk, hokk⟩ : ∃ okk : Nat → Prop, okk = fun _ => True := ⟨_, rfl⟩
  have HOK := Aside0.mk (fun k => (hokk ▸ trivial : okk k))
  clear hokk
  go_wp2_with (first | ((refine gate_builtin (b := .append) (xs := #[.tmp 9, .tmp 10]) rfl ?_); at_builtin; refine Kd.R_append_rows (Kd.raw 6) (w0 := W) (Rr := (Kd.raw 6).K W) W.heap.size rfl (.tmp 9) (.tmp 10) 37 45 (.agg #[.int .i64 0, .bool false, .int .i64 0, .int .i64 0, .int .i64 0, .slice none 0 0]) 64 rfl Try.underlying37 info45 rfl (by decide) (by decide) (.slice none 0 0) [] rows A2 ms.length c2 okk (fun _ => False) rfl rfl (Kd.R_nil _ _ _ _ _) HRR.out (fun _ _ hk => hk) (fun _ hk => hk.elim) (fun k _ => HOK.out k) (Below.refl _ _) (Nat.le_refl _) (by simp; omega) ?_; intro v5 w5 hr5 hb5 hg5 hat5; obtain ⟨A5, c5, rfl, hc5⟩ := Kd.R_slice_len hr5; have HR5 := Aside0.mk hr5; have HB5 := Aside0.mk hb5; clear hr5 hb5 hg5 hat5) | fail)
  rw [List.nil_append] at HR5
  have HC5 := Aside0.mk hc5
  clear hc5
  go_loopw [7, 8] (fun va i wr => ∃ j : Nat, j ≤ 2 ∧ i = .int .i64 (j : Int) ∧ ∃ A c, va = .slice A (rows ++ (exM j).map raw0).length c ∧ Aside0 (Kd.R (Kd.raw 6) 45 wr W.heap.size okk (.slice A (rows ++ (exM j).map raw0).length c) (rows ++ (exM j).map raw0)) ∧ Aside0 (Below W.heap.size W wr)) (fun _ i _ => 2 - (intOf i).toNat)
  case atStart => exact ⟨0, by omega, rfl, A5, c5, by simp [exM], by simpa [exM] using HR5, HB5⟩
  case round =>
    obtain ⟨j, hj, rfl, A, c, rfl, HR, HB⟩ := hrel
    have HRA := Aside0.mk (show (rows ++ (exM (j + 1)).map raw0) = (rows ++ (exM j).map raw0) ++ [raw0 ⟨6, false, (j : Int), 0, 0, []⟩, raw0 ⟨6, true, (j : Int), 0, 0, []⟩] by rw [exM_succ, List.map_append, ← List.append_assoc]; rfl)
    have HRL2 := Aside0.mk (show (rows ++ (exM j).map raw0).length = rows.length + 2 * j by simp [exM_len])
    by_cases hj2 : (j : Int) < 2
    · obtain ⟨rw_, hrw⟩ : ∃ r, r = rows ++ (exM j).map raw0 := ⟨_, rfl⟩
      rw [← hrw] at HR HRA HRL2 ⊢
      have hlen : rw_.length ≤ 2199023255492 := by have := HRL2.out; omega
      clear hrw
      go_wp2_with (first | ((with_reducible refine gate_dst (N := 21) rfl ?_); refine Kd.R_lit (Kd.raw 6) W.heap.size 45 ?hg (N := 21) ?hd (xs := [raw0 ⟨6, false, (j : Int), 0, 0, []⟩, raw0 ⟨6, true, (j : Int), 0, 0, []⟩]) (inner := [.int .i64 6, .bool false, .int .i64 (j : Int), .int .i64 0, .int .i64 0, .slice none 0 0, .int .i64 6, .bool true, .int .i64 (j : Int), .int .i64 0, .int .i64 0, .slice none 0 0]) (ok := okk) (okp := okk) ?hr ?hp (fun _ hk => hk) (HOK.out _) HB.out HB.out.size (by simp) ?_; (case hd => rfl); (case hg => rfl); (case hr => first | (go_simp; done) | (go_simp; rfl)); (case hp => exact reps2 _ _ _); intro v4 w4 ho6 hb4 hg_ hnew_; obtain ⟨A6, c6, rfl, _⟩ := Kd.R_slice_len ho6; have HLI := Aside0.mk ho6; have HRN := Aside0.mk (Kd.R_grown HR.out hg_ (fun _ _ h_ => by cases h_)); have HB4 := Aside0.mk hb4; clear ho6 hb4 hg_ hnew_) | ((refine gate_builtin (b := .append) (xs := #[.tmp 16, .tmp 21]) rfl ?_); at_builtin; refine Kd.R_append_rows (Kd.raw 6) (w0 := W) (Rr := (Kd.raw 6).K w4) W.heap.size rfl (.tmp 16) (.tmp 21) 37 45 (.agg #[.int .i64 0, .bool false, .int .i64 0, .int .i64 0, .int .i64 0, .slice none 0 0]) 64 rfl Try.underlying37 info45 rfl (by decide) (by decide) (.slice A rw_.length c) rw_ [raw0 ⟨6, false, (j : Int), 0, 0, []⟩, raw0 ⟨6, true, (j : Int), 0, 0, []⟩] A6 2 c6 okk (fun _ => False) rfl rfl HRN.out (Kd.R_reads' HLI.out).2.2 (fun _ _ hk => hk) (fun _ hk => hk.elim) (fun k _ => HOK.out k) HB4.out HB4.out.size (by omega) ?_; intro v5 w5 hr5 hb5 hg5 hat5; rw [← HRA.out] at hr5; obtain ⟨A5, c5, rfl, hc5⟩ := Kd.R_slice_len hr5; have HR5 := Aside0.mk hr5; have HB5 := Aside0.mk hb5; clear hr5 hb5 hg5 hat5) | fail)
      go_roundw
      case rel => exact ⟨j + 1, by omega, by go_num, A5, c5, by rw [List.length_append, List.length_map], HR5, HB5⟩
      case measure => simp [intOf]; omega
    · obtain rfl : j = 2 := by omega
      have HE := Aside0.mk (show (rows ++ (exM 2).map raw0).length = (ms ++ exM 2).length by rw [List.length_append, List.length_append, List.length_map, HRL.out])
      have HC := Aside0.mk (ops_of_rows HRL.out HRK.out HB.out (exM_data 2) (Kd.R_reads' HR.out).2.2)
      have HML := Aside0.mk (show (ms ++ exM 2).length ≤ 2300000000000 by rw [List.length_append, exM_len]; omega)
      have HMM := Aside0.mk (show ∀ m ∈ ms ++ exM 2, m.data.length < 140737488355000 from fun m hm => (List.mem_append.1 hm).elim (HM2.out m) (fun h => by rw [exM_data 2 m h]; simp))
      rw [HE.out]
      obtain ⟨mz, hmz⟩ : ∃ z, z = ms ++ exM 2 := ⟨_, rfl⟩
      rw [← hmz] at HC HML HMM HE ⊢
      clear hmz HRA HRL2
      go_wp2_with fail
      refine (fallen_calls _).mono ?_
      rintro e w1 ⟨A9, c9, rfl, h9, hb9⟩
      have H9 := Aside0.mk h9
      have HB9 := Aside0.mk hb9
      clear h9 hb9
      go_wp2_with fail
      refine (upto_calls w1 none none A9 0 0 c9 [] [] fall17 1 11 (C_nil_ w1) (Nat.le_refl 0) (by simp) (C_nil_ w1) (Nat.le_refl 0) (by simp) H9.out (by rw [fall17_len]; omega) fall17_small).mono ?_
      rintro e w2 ⟨rfl, hb2⟩
      have HBZ := Aside0.mk (HB9.out.trans (hb2.mono HB9.out.size))
      have HB2 := Aside0.mk (HB.out.trans (HBZ.out.mono HB.out.size))
      clear hb2
      go_wp2_with fail
      refine (upto_calls w2 A0 A1 A c0 c1 c l0 l1 mz 1 11 (Kd.C_below H0.out HB2.out) h0c HL0.out (Kd.C_below H1.out HB2.out) h1c HL1.out (Kd.C_below HC.out HBZ.out) HML.out HMM.out).mono ?_
      rintro e w3 ⟨rfl, hb3⟩
      have HB3 := Aside0.mk (HB2.out.trans (hb3.mono HB2.out.size))
      clear hb3
      go_wp2_with fail
      go_ret
      exact ⟨rfl, HB3.out⟩
end Go.Proofs.Yticokogggepfoaa.D
