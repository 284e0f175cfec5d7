-- Written by stubprint.py (wip/) of this work, over the kit's print.py; parts by hand.
import Derived.Test.YtgfjmpnlkjocaaaDoorPx0
import Derived.Test.YtgfjmpnlkjocaaaDoorPx1
namespace Go.Proofs.YtgfjmpnlkjocaaaDoor.P
open Go.RowKit Go.Proofs.YtgfjmpnlkjocaaaDoorW.PrintWords Go.Proofs.YtgfjmpnlkjocaaaDoorW.PrintLast Go.Proofs.YtgfjmpnlkjocaaaDoorW.PrintMore
attribute [local go_sem] max2_int min2_int max_two min_two max_three min_three max_four min_four   -- for this text's walks alone
set_option linter.unusedVariables false
set_option linter.unusedSimpArgs false

/-! ### frame_Scan: function 28 (by hand) -/
section
theorem frame_Scan.info23 : (Tryd.prog.info? 23).map (fun i => (i.zero, i.size, i.bytes)) = some (some (.slice none 0 0), 1, 24) := by kernel_rfl
def frame_Scan.g : Nat → List Int → Nat → Option (List (List Int) × Int × Int)
  | 0, _, _ => none
  | k + 1, l, a => (frame_Decode.nx l a).bind fun q => if q.2.2.1 = true then (frame_Scan.g k l q.2.2.2.toNat).bind fun r => some (q.1 :: r.1, r.2.1, r.2.2) else some ([], (a : Int), q.2.1)
def frame_Scan.f (k : Nat) (l0 : List Int) : Option (List (List Int) × Int × Int) := if l0.length ≤ 1000000000 then frame_Scan.g k l0 0 else none
theorem frame_Scan.mono_g : ∀ k l a, LeO (frame_Scan.g k l a) (frame_Scan.g (k + 1) l a)
  | 0, _, _ => fun r h => by simp [frame_Scan.g] at h
  | k + 1, l, a => by
    unfold frame_Scan.g
    refine LeO.bind (LeO.refl _) (fun q => ?_)
    refine LeO.ite ?_ (LeO.refl _)
    exact LeO.bind (frame_Scan.mono_g k l _) (fun r => LeO.refl _)
theorem frame_Scan.mono : ∀ a0 k, LeO (frame_Scan.f k a0) (frame_Scan.f (k + 1) a0) := by
  intro a0 k
  unfold frame_Scan.f
  exact LeO.ite (frame_Scan.mono_g k a0 0) (LeO.refl _)
theorem frame_Scan.nx_whole {l : List Int} {a : Nat} {p : List Int} {t a' : Int} (ha : a ≤ l.length) (h : frame_Decode.nx l a = some (p, t, true, a')) : a' = (((a + 4 + p.length + 4 : Nat)) : Int) ∧ a + 4 + p.length + 4 ≤ l.length := by
  unfold frame_Decode.nx at h
  have hd : (l.drop a).length = l.length - a := List.length_drop
  split at h
  · simp at h
  split at h
  · simp at h
  obtain ⟨n, hn, h⟩ := Option.bind_eq_some_iff.mp h
  split at h
  · simp at h
  split at h
  · simp at h
  split at h
  · simp at h
  obtain ⟨s, hs, h⟩ := Option.bind_eq_some_iff.mp h
  obtain ⟨z, hz, h⟩ := Option.bind_eq_some_iff.mp h
  split at h
  · simp only [Option.some.injEq, Prod.mk.injEq, true_and] at h
    obtain ⟨hp, _, ha'⟩ := h
    have hpl : p.length = n.toNat := by rw [← hp, List.length_drop, List.length_take]; omega
    omega
  · simp at h
theorem frame_Scan.nx_not {l : List Int} {a : Nat} {p : List Int} {t a' : Int} (h : frame_Decode.nx l a = some (p, t, false, a')) : p = [] ∧ a' = (a : Int) := by
  unfold frame_Decode.nx at h
  split at h
  · simp only [Option.some.injEq, Prod.mk.injEq] at h; exact ⟨h.1.symm, h.2.2.2.symm⟩
  split at h
  · simp only [Option.some.injEq, Prod.mk.injEq] at h; exact ⟨h.1.symm, h.2.2.2.symm⟩
  obtain ⟨n, hn, h⟩ := Option.bind_eq_some_iff.mp h
  split at h
  · simp only [Option.some.injEq, Prod.mk.injEq] at h; exact ⟨h.1.symm, h.2.2.2.symm⟩
  split at h
  · simp at h
  split at h
  · simp only [Option.some.injEq, Prod.mk.injEq] at h; exact ⟨h.1.symm, h.2.2.2.symm⟩
  obtain ⟨s, hs, h⟩ := Option.bind_eq_some_iff.mp h
  obtain ⟨z, hz, h⟩ := Option.bind_eq_some_iff.mp h
  split at h
  · simp at h
  · simp only [Option.some.injEq, Prod.mk.injEq] at h; exact ⟨h.1.symm, h.2.2.2.symm⟩
/-- The bytes of these payloads' frames. -/
def frame_Scan.en : List (List Int) → Nat
  | [] => 0
  | p :: ps => p.length + 8 + frame_Scan.en ps
theorem frame_Scan.en_snoc (p : List Int) : ∀ ps, frame_Scan.en (ps ++ [p]) = frame_Scan.en ps + (p.length + 8)
  | [] => by simp [frame_Scan.en]
  | q :: ps => by rw [List.cons_append]; unfold frame_Scan.en; rw [frame_Scan.en_snoc p ps]; omega
theorem frame_Scan.en_len : ∀ ps, 8 * ps.length ≤ frame_Scan.en ps
  | [] => by simp
  | q :: ps => by have := frame_Scan.en_len ps; unfold frame_Scan.en; rw [List.length_cons]; omega
/-- What has come, and where the frames go on. -/
def frame_Scan.Pu (l0 : List Int) (r1 : List (List Int)) (r2 r3 : Int) (ps : List (List Int)) (a : Nat) : Prop := a ≤ l0.length ∧ a = frame_Scan.en ps ∧ ∃ k rs, frame_Scan.g k l0 a = some (rs, r2, r3) ∧ r1 = ps ++ rs
theorem frame_Scan.pu_cases {l0 : List Int} {r1 : List (List Int)} {r2 r3 : Int} {ps : List (List Int)} {a : Nat} (h : frame_Scan.Pu l0 r1 r2 r3 ps a) :
    (∃ p t, frame_Decode.nx l0 a = some (p, t, true, (((a + 4 + p.length + 4 : Nat)) : Int)) ∧ frame_Scan.Pu l0 r1 r2 r3 (ps ++ [p]) (a + 4 + p.length + 4)) ∨
    (frame_Decode.nx l0 a = some ([], r3, false, (a : Int)) ∧ r2 = (a : Int) ∧ r1 = ps) := by
  obtain ⟨ha, h8, k, rs, hg, hr⟩ := h
  cases k with
  | zero => simp [frame_Scan.g] at hg
  | succ k =>
    unfold frame_Scan.g at hg
    obtain ⟨⟨p, t, b, a'⟩, hq, hg⟩ := Option.bind_eq_some_iff.mp hg
    cases b with
    | true =>
      simp only [if_true] at hg
      obtain ⟨q, hq2, hg⟩ := Option.bind_eq_some_iff.mp hg
      obtain ⟨q1, q2, q3⟩ := q
      simp only [Option.some.injEq, Prod.mk.injEq] at hg
      obtain ⟨rfl, rfl, rfl⟩ := hg
      obtain ⟨e, hle⟩ := frame_Scan.nx_whole ha hq
      rw [e] at hq hq2
      rw [Int.toNat_natCast] at hq2
      exact .inl ⟨p, t, hq, hle, by rw [frame_Scan.en_snoc, h8]; omega, k, q1, hq2, by rw [hr, List.append_assoc]; rfl⟩
    | false =>
      rw [if_neg (by simp)] at hg
      simp only [Option.some.injEq, Prod.mk.injEq] at hg
      obtain ⟨rfl, rfl, rfl⟩ := hg
      obtain ⟨rfl, rfl⟩ := frame_Scan.nx_not hq
      exact .inr ⟨hq, rfl, by rw [hr, List.append_nil]⟩
set_option maxRecDepth 100000 in
theorem frame_Scan.all_ (A0 : Option Addr) (n c0 : Nat) (w : World) :
    Calls Tryd.prog 31 #[.slice A0 n c0] w fun e w' => e = .returned (.func (.func 44) #[] #[.pointer (some ⟨w.heap.size, 0, none⟩)]) ∧ w' = w.alloc (.cells #[.slice A0 n c0] 23) := by
  go_enter Tryd.func31, Tryd.ntmps31
  go_wp2
  go_ret
  exact ⟨rfl, rfl⟩
/-- What the call's own blocks hold between two rounds (M: where the payloads lie). -/
structure frame_Scan.Hold (A0 : Option Addr) (c0 : Nat) (l0 : List Int) (w0 : World) (ps : List (List Int)) (a a' : Nat) (M : Nat → Prop) (W : World) : Prop where
  box : ∃ u, W.heap[w0.heap.size]? = some (.cells #[u] 30 (0, 0)) ∧ Kd.S (Kd.slice 5 (Kd.int .u8)) 23 W (w0.heap.size + 6) M u ps
  fin : W.heap[w0.heap.size + 1]? = some (.cells #[.int .i64 (a : Int)] 3 (0, 0))
  file : W.heap[w0.heap.size + 2]? = some (.cells #[.slice A0 l0.length c0] 23 (0, 0))
  below : Below w0.heap.size w0 W
  cur : w0.heap.size + 5 < W.heap.size → W.heap[w0.heap.size + 5]? = some (.cells #[.slice A0 l0.length c0, .int .i64 (a' : Int)] 58 (0, 0))
variable {A0 : Option Addr} {c0 : Nat} {l0 : List Int} {w0 : World} {ps : List (List Int)} {a a' a'' : Nat} {M : Nat → Prop} {W W' : World}
theorem frame_Scan.Hold.put (h : frame_Scan.Hold A0 c0 l0 w0 ps a a' M W) {l : Nat} {o : Obj} (o' : Obj) (h1 : w0.heap.size + 3 ≤ l) (h2 : l ≤ w0.heap.size + 4) (hl : W.heap[l]? = some o) : frame_Scan.Hold A0 c0 l0 w0 ps a a' M (W.putObj l o') := by
  obtain ⟨⟨u, hu, hs⟩, hf, hi, hb, hc⟩ := h
  refine ⟨⟨u, (World.putObj_heap_other (by omega)).trans hu, ?_⟩, (World.putObj_heap_other (by omega)).trans hf, (World.putObj_heap_other (by omega)).trans hi, ?_, fun hlt => (World.putObj_heap_other (by omega)).trans (hc (by simpa using hlt))⟩
  · exact Kd.S_mono (Kd.S_step (Kd.S_bound hs) (fun k hk _ => World.putObj_heap_other (by have := hk.2.1; omega))) (fun _ hk => hk.1)
  · exact hb.grown (grownBy_putObj' W l o') hb.size (fun k e => by cases e; omega)
theorem frame_Scan.Hold.keep (h : frame_Scan.Hold A0 c0 l0 w0 ps a a' M W) (hk : KeepBut W W' (w0.heap.size + 5) none) (hb : Below w0.heap.size W W') (hlt : w0.heap.size + 4 < W.heap.size) (hc : W'.heap[w0.heap.size + 5]? = some (.cells #[.slice A0 l0.length c0, .int .i64 (a'' : Int)] 58 (0, 0))) : frame_Scan.Hold A0 c0 l0 w0 ps a a'' (fun k => M k ∧ k < W.heap.size) W' := by
  obtain ⟨⟨u, hu, hs⟩, hf, hi, hbb, _⟩ := h
  refine ⟨⟨u, hk.blk hu (by omega) (by simp), ?_⟩, hk.blk hf (by omega) (by simp), hk.blk hi (by omega) (by simp), hbb.trans hb, fun _ => hc⟩
  exact Kd.S_mono (Kd.S_step (Kd.S_bound hs) (fun k hkk hlt2 => hk.2 k hlt2 (by have := hkk.2.1; omega) (by simp))) (fun _ hkk => ⟨hkk.1, hkk.2.2.1⟩)
theorem frame_Scan.Hold.mono {M' : Nat → Prop} (h : frame_Scan.Hold A0 c0 l0 w0 ps a a' M W) (hM : ∀ k, M k → M' k) : frame_Scan.Hold A0 c0 l0 w0 ps a a' M' W := by
  obtain ⟨⟨u, hu, hs⟩, hf, hi, hb, hc⟩ := h
  exact ⟨⟨u, hu, Kd.S_mono hs hM⟩, hf, hi, hb, hc⟩
def frame_Scan.Pl (xs : List (Int × List Int × Value)) : List (List Int) := xs.map (fun x => x.2.1)
def frame_Scan.I (A0 : Option Addr) (c0 : Nat) (l0 : List Int) (w0 : World) (r1 : List (List Int)) (r2 r3 : Int) (xs : List (Int × List Int × Value)) (W : World) : Prop :=
  ∃ a : Nat, frame_Scan.Pu l0 r1 r2 r3 (frame_Scan.Pl xs) a ∧ frame_Scan.Hold A0 c0 l0 w0 (frame_Scan.Pl xs) a a (fun _ => True) W ∧ (xs ≠ [] → w0.heap.size + 5 < W.heap.size)
def frame_Scan.Pt (A0 : Option Addr) (c0 : Nat) (l0 : List Int) (w0 : World) (r1 : List (List Int)) (r2 r3 : Int) (xs : List (Int × List Int × Value)) (x : Int × List Int × Value) (W : World) : Prop :=
  ∃ a M : Nat, x.1 = (a : Int) ∧ frame_Scan.Pu l0 r1 r2 r3 (frame_Scan.Pl xs ++ [x.2.1]) (a + 4 + x.2.1.length + 4) ∧ frame_Scan.Hold A0 c0 l0 w0 (frame_Scan.Pl xs) a (a + 4 + x.2.1.length + 4) (fun k => k < M) W ∧ Kd.R (Kd.int .u8) 5 W M (fun _ => True) x.2.2 x.2.1 ∧ w0.heap.size + 6 ≤ M ∧ w0.heap.size + 5 < W.heap.size
theorem frame_Scan.fits {l0 : List Int} {r1 : List (List Int)} {r2 r3 : Int} {ps : List (List Int)} {a : Nat} (h : frame_Scan.Pu l0 r1 r2 r3 ps a) (hl : l0.length ≤ 1000000000) : a ≤ 1000000000 ∧ ps.length ≤ 1000000000 := by
  obtain ⟨h1, h2, _⟩ := h
  have := frame_Scan.en_len ps
  omega

attribute [local go_sem] Oper.semAt_some
set_option maxRecDepth 100000 in
set_option maxHeartbeats 4000000 in
theorem frame_Scan.all1 (A0 : Option Addr) (c0 : Nat) (l0 : List Int) (w0 : World) (r1 : List (List Int)) (r2 r3 : Int) (hr0 : Kd.C (Kd.int .u8) w0 A0 l0.length l0) (hc0 : l0.length ≤ c0) (hL : Laid w0) (hlen : l0.length ≤ 1000000000)
    (Bk : World → Prop) (hBk : ∀ W W', Bk W → W'.heap[w0.heap.size + 3]? = W.heap[w0.heap.size + 3]? → W'.heap[w0.heap.size + 4]? = W.heap[w0.heap.size + 4]? → Bk W') (hBs : ∀ W, Bk W → w0.heap.size + 4 < W.heap.size) (n : Nat)
    (W1 : World) (hsize : W1.heap.size = w0.heap.size + 5) (hI0 : frame_Scan.I A0 c0 l0 w0 r1 r2 r3 [] W1) (hB1 : Bk W1)
    (hY : ∀ xs x W, frame_Scan.Pt A0 c0 l0 w0 r1 r2 r3 xs x W → Bk W → YieldAt Fence.wide (n - 1) Tryd.prog (w0.heap.size + 4) #[.int .i64 x.1, x.2.2] W fun e W' => e = .returned (.bool true) ∧ frame_Scan.I A0 c0 l0 w0 r1 r2 r3 (xs ++ [x]) W' ∧ Bk W') :
    CallsIn Fence.wide n Tryd.prog 44 #[.func (.yield (w0.heap.size + 4)) #[] #[], .pointer (some ⟨w0.heap.size + 2, 0, none⟩)] W1 fun e W' => (∃ v, e = .returned v) ∧ ∃ xs, r1 = frame_Scan.Pl xs ∧ frame_Scan.I A0 c0 l0 w0 r1 r2 r3 xs W' ∧ Bk W' := by
  have hmax := Kd.C_max hr0
  obtain ⟨a, hpu, hh, _⟩ := hI0
  obtain rfl : a = 0 := hpu.2.1
  have HPU := Aside0.mk hpu
  have HH := Aside0.mk hh
  have HY := Aside0.mk hY
  have HBK := Aside0.mk hBk
  have HB1 := Aside0.mk hB1
  have HS := Aside0.mk hBs
  have HR := Aside0.mk hr0
  have HL := Aside0.mk hL
  have HC := Aside0.mk hc0
  have HLEN := Aside0.mk hlen
  have HSZ := Aside0.mk hsize
  have e0 : W1.cell? ⟨w0.heap.size + 2, 0, none⟩ = some (.slice A0 l0.length c0) := by simp [World.cell?, hh.file]
  clear hpu hh hY hBk hB1 hBs hr0 hL hc0 hlen hmax
  refine callsIn_of_wp Tryd.func44 rfl trivial ?_ rfl
  simp only [Tryd.ntmps44, List.size_toArray, List.length_cons, List.length_nil, Nat.reduceAdd, Nat.reduceSub, Array.replicate_succ, Array.replicate_zero, List.push_toArray, List.append_toArray, List.nil_append, List.cons_append]
  gi_wp2
  gi_loopw [] (fun wr => ∃ (xs : List (Int × List Int × Value)) (a : Nat), Aside0 (frame_Scan.Pu l0 r1 r2 r3 (frame_Scan.Pl xs) a) ∧ Aside0 (frame_Scan.Hold A0 c0 l0 w0 (frame_Scan.Pl xs) a a (fun _ => True) wr) ∧ Aside0 (w0.heap.size + 5 < wr.heap.size) ∧ Aside0 (Bk wr))
    (fun wr => l0.length - (intOf ((wr.cell? ⟨w0.heap.size + 1, 0, none⟩).getD undef)).toNat)
  case atStart =>
    have hb1 : Below w0.heap.size W1 (W1.alloc (.cells #[.slice A0 l0.length c0, .int .i64 0] 58)) := (below_alloc (Below.refl W1.heap.size W1) _).mono (by omega)
    refine ⟨[], 0, HPU, ⟨(HH.out.keep (a'' := 0) (KeepBut.of_below (below_alloc (Below.refl _ _) _) _ _) hb1 (by omega) ?_).mono (fun _ _ => trivial)⟩, ⟨by simp; omega⟩, ⟨HBK.out _ _ HB1.out (Below.heap_alloc _ _ _ (by omega)) (Below.heap_alloc _ _ _ (by omega))⟩⟩
    have := World.alloc_heap_new W1 (.cells #[.slice A0 l0.length c0, .int .i64 0] 58)
    rw [HSZ.out] at this
    exact this
  case round =>
    obtain ⟨xs, a, HPU2, HH2, HLT, HBK2⟩ := hrel
    have hcur := HH2.out.cur HLT.out
    have hne : ∀ ad, A0 = some ad → 0 < l0.length → ad.block ≠ w0.heap.size + 5 := by
      intro ad he hp hE
      subst he
      have h1 := Kd.C_lt HR.out hp (show 0 < 1 from Nat.one_pos)
      omega
    have e1 : wr.cell? ⟨w0.heap.size + 5, 1, none⟩ = some (.int .i64 (a : Int)) := by simp [World.cell?, hcur]
    have e2 : (wr.cell? ⟨w0.heap.size + 1, 0, none⟩).getD undef = .int .i64 (a : Int) := by simp [World.cell?, HH2.out.fin]
    rcases frame_Scan.pu_cases HPU2.out with ⟨p, t, hnx, hpu⟩ | ⟨hnx, hr2, hr1⟩
    · have hnxt := frame_Decode.next (w0.heap.size + 5) A0 c0 l0 a p t true _ wr hcur (Kd.C_below HR.out HH2.out.below) HC.out HPU2.out.1 hne (laid_at HL.out HH2.out.below) hnx
      have HP3 := Aside0.mk hpu
      have HE2 := Aside0.mk e2
      clear hnx hcur hne hpu e2
      gi_wp2_with (first | (refine ⟨trivial, (fun h => by cases h), ?_⟩; refine ((callsIn_wide (n := n - 1)).2 hnxt).mono ?_; clear hnxt; rintro e w2 ⟨v, rfl, ho, hcc, hk, hb⟩; have hold := HH2.out.keep hk (hb _ (by omega)) (by have := HLT.out; omega) hcc; have hbk := HBK.out wr w2 HBK2.out (hk.2 _ (by have := HLT.out; omega) (by omega) (by simp)) (hk.2 _ (by have := HLT.out; omega) (by omega) (by simp)); obtain ⟨fn, tmps, assign, body, hy, hR⟩ := HY.out xs ((a : Int), p, v) w2 ⟨a, wr.heap.size, rfl, HP3.out, hold.mono (fun _ hk => hk.2), ho, HLT.out, by have := hk.1; have := HLT.out; omega⟩ hbk; dsimp only at hy; clear ho hcc hk hb hold hbk))
      refine ⟨(fun h => by cases h), hR.mono ?_⟩
      rintro e W3 ⟨rfl, ⟨a3, hpu3, hh3, hlt3⟩, hbk3⟩
      gi_wp2
      go_roundw
      case rel => exact ⟨_, a3, ⟨hpu3⟩, ⟨hh3⟩, ⟨hlt3 (by simp)⟩, ⟨hbk3⟩⟩
      case measure =>
        have e3 : (W3.cell? ⟨w0.heap.size + 1, 0, none⟩).getD undef = .int .i64 (a3 : Int) := by simp [World.cell?, hh3.fin]
        have h4 : a3 = a + (p.length + 8) := by
          have h5 := hpu3.2.1
          rw [show frame_Scan.Pl (xs ++ [((a : Int), p, v)]) = frame_Scan.Pl xs ++ [p] from by simp [frame_Scan.Pl], frame_Scan.en_snoc, ← HPU2.out.2.1] at h5
          exact h5
        have h6 := hpu3.1
        simp only [e3, HE2.out, intOf, Int.toNat_natCast]
        omega
    · have hnxt := frame_Decode.next (w0.heap.size + 5) A0 c0 l0 a [] r3 false _ wr hcur (Kd.C_below HR.out HH2.out.below) HC.out HPU2.out.1 hne (laid_at HL.out HH2.out.below) hnx
      have HR1 := Aside0.mk hr1
      clear hnx hcur hne hr1 hr2 e2
      gi_wp2_with (first | (refine ⟨trivial, (fun h => by cases h), ?_⟩; refine ((callsIn_wide (n := n - 1)).2 hnxt).mono ?_; clear hnxt; rintro e w2 ⟨v, rfl, ho, hcc, hk, hb⟩; have hold := HH2.out.keep hk (hb _ (by omega)) (by have := HLT.out; omega) hcc; have hbk := HBK.out wr w2 HBK2.out (hk.2 _ (by have := HLT.out; omega) (by omega) (by simp)) (hk.2 _ (by have := HLT.out; omega) (by omega) (by simp)); have HOLD := Aside0.mk hold; have HBK3 := Aside0.mk hbk; have HK1 := Aside0.mk hk.1; clear ho hcc hk hb hold hbk))
      refine ⟨fun _ h => (by cases h), ?_⟩
      gi_wp2
      refine bodyPost_ret (results_none rfl _ _ _) rfl ?_
      exact ⟨⟨_, rfl⟩, xs, HR1.out, ⟨a, HPU2.out, HOLD.out.mono (fun _ _ => trivial), fun _ => by have := HK1.out; have := HLT.out; omega⟩, HBK3.out⟩

theorem frame_Scan.gen_in {F : Fence} {n : Nat} {P : Program} {c : Code} {Q : Exit → Act → World → Prop} {a : Act} {W : World} (G : World → Prop) (h0 : G W) (h : ∀ W2, G W2 → c.wpIn F n P Q a W2) : c.wpIn F n P Q a W := h W h0
theorem frame_Scan.grow (h : frame_Scan.Hold A0 c0 l0 w0 ps a a' M W) (hb : Below W.heap.size W W') (hle : w0.heap.size ≤ W.heap.size) (hs : W'.heap.size ≤ w0.heap.size + 5) : frame_Scan.Hold A0 c0 l0 w0 ps a a' M W' := by
  obtain ⟨⟨u, hu, hS⟩, hf, hi, hbb, _⟩ := h
  exact ⟨⟨u, (hb.block _ (blk_lt hu)).trans hu, Kd.S_below hS hb⟩, (hb.block _ (blk_lt hf)).trans hf, (hb.block _ (blk_lt hi)).trans hi, hbb.trans (hb.mono hle), fun h => by omega⟩
theorem frame_Scan.done_ {l0 : List Int} {r1 : List (List Int)} {r2 r3 : Int} {ps : List (List Int)} {a : Nat} (h : frame_Scan.Pu l0 r1 r2 r3 ps a) (he : r1 = ps) : frame_Decode.f l0 (a : Int) = some ([], (a : Int), r3) ∧ r2 = (a : Int) := by
  rcases frame_Scan.pu_cases h with ⟨p, t, _, hp⟩ | ⟨hq, hr, _⟩
  · obtain ⟨_, _, k, rs, _, hr⟩ := hp
    have := congrArg List.length (he.symm.trans hr)
    simp at this
  · refine ⟨?_, hr⟩
    have := h.1
    unfold frame_Decode.f
    rw [if_neg (by omega), Int.toNat_natCast, hq]
    rfl
/-- What the call leaves. -/
structure frame_Scan.Fin (w : World) (u : Value) (a : Int) (ps : List (List Int)) (W : World) : Prop where
  box : W.heap[w.heap.size]? = some (.cells #[u] 30 (0, 0))
  fin : W.heap[w.heap.size + 1]? = some (.cells #[.int .i64 a] 3 (0, 0))
  shelf : Kd.S (Kd.slice 5 (Kd.int .u8)) 23 W (w.heap.size + 6) (fun _ => True) u ps
  mark : W.heap[w.heap.size + 3]? = some (.deferred (some []))
  below : Below w.heap.size w W
structure frame_Scan.Fin' (w : World) (u : Value) (a : Int) (ps : List (List Int)) (W : World) : Prop where
  box : W.heap[w.heap.size]? = some (.cells #[u] 30 (0, 0))
  fin : W.heap[w.heap.size + 1]? = some (.cells #[.int .i64 a] 3 (0, 0))
  shelf : Kd.S (Kd.slice 5 (Kd.int .u8)) 23 W (w.heap.size + 6) (fun _ => True) u ps
  below : Below w.heap.size w W
  c0 : W.cell? ⟨w.heap.size, 0, none⟩ = some u
  c1 : W.cell? ⟨w.heap.size + 1, 0, none⟩ = some (.int .i64 a)
theorem frame_Scan.Fin.put3 {w : World} {u : Value} {a : Int} {ps : List (List Int)} {W : World} (h : frame_Scan.Fin w u a ps W) (o' : Obj) : frame_Scan.Fin' w u a ps (W.putObj (w.heap.size + 3) o') := by
  have hb := (World.putObj_heap_other (w := W) (o := o') (show w.heap.size ≠ w.heap.size + 3 by omega)).trans h.box
  have hf := (World.putObj_heap_other (w := W) (o := o') (show w.heap.size + 1 ≠ w.heap.size + 3 by omega)).trans h.fin
  refine ⟨hb, hf, ?_, ?_, by simp [World.cell?, hb], by simp [World.cell?, hf]⟩
  · exact Kd.S_mono (Kd.S_step (Kd.S_bound h.shelf) (fun k hk _ => World.putObj_heap_other (by have := hk.2.1; omega))) (fun _ hk => hk.1)
  · exact h.below.grown (grownBy_putObj' W _ o') h.below.size (fun k e => by cases e; omega)
def frame_Scan.FinS (w : World) (u : Value) (a : Int) (ps : List (List Int)) (W : World) : Prop := frame_Scan.Fin w u a ps W ∧ W.cell? ⟨w.heap.size, 0, none⟩ = some u ∧ W.cell? ⟨w.heap.size + 1, 0, none⟩ = some (.int .i64 a) ∧ W.frozen? ⟨w.heap.size, 0, none⟩ = false ∧ W.frozen? ⟨w.heap.size + 1, 0, none⟩ = false
theorem frame_Scan.Fin.all {w : World} {u : Value} {a : Int} {ps : List (List Int)} {W : World} (h : frame_Scan.Fin w u a ps W) : frame_Scan.FinS w u a ps W :=
  ⟨h, by simp [World.cell?, h.box], by simp [World.cell?, h.fin], by simp [World.frozen?, h.box], by simp [World.frozen?, h.fin]⟩
theorem frame_Scan.Fin.drew {w : World} {u : Value} {a : Int} {ps : List (List Int)} {W : World} (h : frame_Scan.Fin w u a ps W) : frame_Scan.Fin w u a ps W.drew :=
  ⟨h.box, h.fin, Kd.S_drew h.shelf, h.mark, below_drew1 h.below⟩
theorem frame_Scan.Fin.set0 {w : World} {u : Value} {a : Int} {ps : List (List Int)} {W : World} (h : frame_Scan.Fin w u a ps W) : frame_Scan.Fin w u a ps (W.setCell ⟨w.heap.size, 0, none⟩ u) :=
  ⟨blk_set h.box 0 u, (Below.heap_setCell _ _ _ _ (by simp)).trans h.fin, Kd.S_mono (Kd.S_far (Kd.S_bound h.shelf) (fun k hk => by have := hk.2.1; simp; omega) _) (fun _ _ => trivial), (Below.heap_setCell _ _ _ _ (by simp)).trans h.mark, Below.setCell h.below (Nat.le_refl _) _⟩
theorem frame_Scan.Fin.set1 {w : World} {u : Value} {a : Int} {ps : List (List Int)} {W : World} (h : frame_Scan.Fin w u a ps W) : frame_Scan.Fin w u a ps (W.setCell ⟨w.heap.size + 1, 0, none⟩ (.int .i64 a)) :=
  ⟨(Below.heap_setCell _ _ _ _ (by simp)).trans h.box, blk_set h.fin 0 _, Kd.S_mono (Kd.S_far (Kd.S_bound h.shelf) (fun k hk => by have := hk.2.1; simp; omega) _) (fun _ _ => trivial), (Below.heap_setCell _ _ _ _ (by simp)).trans h.mark, Below.setCell h.below (by simp) _⟩
theorem frame_Scan.FinS.set0 {w : World} {u : Value} {a : Int} {ps : List (List Int)} {W : World} (h : frame_Scan.FinS w u a ps W) : frame_Scan.FinS w u a ps (W.setCell ⟨w.heap.size, 0, none⟩ u) := h.1.set0.all
theorem frame_Scan.FinS.set1 {w : World} {u : Value} {a : Int} {ps : List (List Int)} {W : World} (h : frame_Scan.FinS w u a ps W) : frame_Scan.FinS w u a ps (W.setCell ⟨w.heap.size + 1, 0, none⟩ (.int .i64 a)) := h.1.set1.all
set_option maxRecDepth 100000 in
set_option maxHeartbeats 4000000 in
theorem frame_Scan.calls (k : Nat) (A0 : Option Addr) (c0 : Nat) (l0 : List Int) (r1 : List (List Int)) (r2 : Int) (r3 : Int) (w : World) (hr0 : Kd.C (Kd.int .u8) w A0 l0.length l0) (hc0 : l0.length ≤ c0) (hL : Laid w) (h : frame_Scan.f k l0 = some (r1, r2, r3)) :
    Calls Tryd.prog 28 #[.slice A0 l0.length c0] w fun e w' => ∃ v0_ : Value, e = .returned (.tuple #[v0_, .int .i64 r2, .int .i64 r3]) ∧ Kd.S (Kd.slice 5 (Kd.int .u8)) 23 w' w.heap.size (fun _ => True) v0_ r1 ∧ Below w.heap.size w w' := by
  unfold frame_Scan.f at h
  split at h
  case isFalse => cases h
  rename_i hlen
  have HPU := Aside0.mk (show frame_Scan.Pu l0 r1 r2 r3 [] 0 from ⟨Nat.zero_le _, rfl, k, r1, h, rfl⟩)
  have HR := Aside0.mk hr0
  have HL := Aside0.mk hL
  have HC := Aside0.mk hc0
  have HLEN := Aside0.mk hlen
  clear h hr0 hL hc0 hlen
  refine (callsIn_wide (n := 9)).1 ?_
  refine callsIn_of_wp_marks Tryd.func28 rfl trivial ?_ rfl
  simp only [Tryd.ntmps28, List.size_toArray, List.length_cons, List.length_nil, Nat.reduceAdd, Nat.reduceSub, Array.replicate_succ, Array.replicate_zero, List.push_toArray, List.append_toArray, List.nil_append, List.cons_append]
  gi_wp2_with (first | (refine ⟨trivial, ?_⟩; refine ((callsIn_wide (n := 8)).2 (frame_Scan.all_ A0 l0.length c0 _)).mono ?_; rintro e w' ⟨rfl, rfl⟩))
  refine frame_Scan.gen_in (fun W => W.heap.size = w.heap.size + 3 ∧ frame_Scan.Hold A0 c0 l0 w [] 0 0 (fun _ => True) W) ?_ ?_
  · refine ⟨by simp, ⟨⟨_, ?_, Kd.S_nil _ _ _ _ _⟩, ?_, ?_, ?_, fun h => by exfalso; simp only [World.size_alloc] at h; omega⟩⟩
    · exact blk_alloc (blk_alloc (blk_new w _) _) _
    · have := blk_new (w.alloc (.cells #[.slice none 0 0] 30)) (.cells #[.int .i64 0] 3)
      rw [World.size_alloc] at this
      exact blk_alloc this _
    · have := blk_new ((w.alloc (.cells #[.slice none 0 0] 30)).alloc (.cells #[.int .i64 0] 3)) (.cells #[.slice A0 l0.length c0] 23)
      rw [World.size_alloc, World.size_alloc] at this
      exact this
    · exact below_alloc (below_alloc (below_alloc (Below.refl _ _) _) _) _
  rintro wS ⟨hsz, hh0⟩
  have HH0 := Aside0.mk hh0
  have HSZ := Aside0.mk hsz
  clear hsz hh0
  refine Iter.range_own rfl (by omega) (gf := 44) (lb := #[.pointer (some ⟨w.heap.size + 2, 0, none⟩)]) rfl trivial (enters_of Tryd.func44 (by kernel_rfl) rfl) (fun x : Int × List Int × Value => #[.int .i64 x.1, x.2.2]) (fun _ => rfl) (fun xs => r1 = frame_Scan.Pl xs)
    (frame_Scan.I A0 c0 l0 w r1 r2 r3) (frame_Scan.Pt A0 c0 l0 w r1 r2 r3) ?hI ?hP ?h0
    (fun x => { tmps := #[.slice A0 l0.length c0, undef, .pointer (some ⟨w.heap.size, 0, none⟩), .pointer (some ⟨w.heap.size + 1, 0, none⟩), .int .i64 0, .int .i64 x.1, x.2.2, .slice A0 l0.length c0, .func (.func 44) #[] #[.pointer (some ⟨w.heap.size + 2, 0, none⟩)], .int .i64 x.1, x.2.2, undef, undef, undef, undef, undef, undef, undef, undef, undef, undef, undef, undef, undef, undef, undef, undef, undef, undef, undef, undef], defers := [] }) ?assign ?body ?call ?done
  case hI =>
    rintro xs W l o o' ⟨a, hp, hh, hlt⟩ h1 h2 hl _
    have := HSZ.out
    exact ⟨a, hp, hh.put o' (by omega) (by omega) hl, fun h => by simpa using hlt h⟩
  case hP =>
    rintro xs x W l o o' ⟨a, M, hx, hp, hh, hr, hM, hlt⟩ h1 h2 hl _
    have := HSZ.out
    exact ⟨a, M, hx, hp, hh.put o' (by omega) (by omega) hl, Kd.R_mono (Kd.R_step (Kd.R_bound hr) (fun k hk _ => World.putObj_heap_other (by have := hk.2.1; omega))) (fun _ hk => hk.1), hM, by simpa using hlt⟩
  case h0 =>
    intro o1 o2
    have hs := HSZ.out
    exact ⟨0, HPU.out, frame_Scan.grow HH0.out (below_alloc (below_alloc (Below.refl _ _) _) _) (by omega) (by simp; omega), fun h => absurd rfl h⟩
  case assign =>
    intro x W K hK
    gi_wp2
    exact hK
  case call =>
    intro Bk hBk hBs W1 hs1 hI1 hB1 hY
    have hs := HSZ.out
    rw [hs] at hBk hBs hs1 hY ⊢
    have hz := frame_Scan.all1 A0 c0 l0 w r1 r2 r3 HR.out HC.out HL.out HLEN.out Bk hBk hBs 8 W1 hs1 hI1 hB1 hY
    exact hz
  case body =>
    rintro xs ⟨z, p, v⟩ W ⟨a, M, hz, hpu, hh, hr, hM, hlt⟩ hlt2
    obtain rfl : z = (a : Int) := hz
    dsimp only at hpu hh hr
    obtain ⟨⟨u, hu, hS⟩, hf, hi, hb, hc⟩ := hh
    obtain ⟨Av, cv, rfl⟩ := Kd.R_slice hr
    have hcc := hc hlt
    have hfit := frame_Scan.fits hpu HLEN.out
    have hs := HSZ.out
    have hbM := Kd.R_base hr
    have huM : ∀ k, u.ownBlock = some k → w.heap.size + 6 ≤ k ∧ k < M := fun k hk => ⟨Kd.S_base hS k hk, (Kd.S_R hS).1 k hk⟩
    have c0' : W.cell? ⟨w.heap.size, 0, none⟩ = some u := by simp [World.cell?, hu]
    have h1 : IntKind.i64.wrap ((a : Int) + 4) = (a : Int) + 4 := IntWalk.i64_in _ (by omega)
    have h2 : IntKind.i64.wrap ((a : Int) + 4 + (p.length : Int)) = (a : Int) + 4 + (p.length : Int) := IntWalk.i64_in _ (by omega)
    have h3 : IntKind.i64.wrap ((a : Int) + 4 + (p.length : Int) + 4) = (a : Int) + 4 + (p.length : Int) + 4 := IntWalk.i64_in _ (by omega)
    have HR2 := Aside0.mk hr
    have HS2 := Aside0.mk hS
    have HU := Aside0.mk hu
    have HF := Aside0.mk hf
    have HI := Aside0.mk hi
    have HB := Aside0.mk hb
    have HCC := Aside0.mk hcc
    have HBM := Aside0.mk hbM
    have HUM := Aside0.mk huM
    have HFIT := Aside0.mk hfit
    have HPU2 := Aside0.mk hpu
    have HLT := Aside0.mk hlt
    have HM := Aside0.mk hM
    have HMW := Aside0.mk (show w.heap.size + 6 ≤ W.heap.size from by omega)
    clear hr hS hu hf hi hb hcc hbM huM hfit hpu hlt hM hc hs hlt2
    gi_wp2_with (first | (gi_at_builtin; refine Iter.S_append_in (Kd.slice 5 (Kd.int .u8)) (W := W) (w.heap.size + 6) rfl (.tmp 11) (.tmp 13) 30 23 (.slice none 0 0) 24 rfl Tryd.underlying30 frame_Scan.info23 rfl (by decide) (by omega) u (frame_Scan.Pl xs) p [.slice Av p.length cv] (fun _ => True) (fun k => some k = (Value.slice Av p.length cv).ownBlock) rfl rfl ?aP ?aO ?aF ?aH ?aB ?aL ?_; (case aP => exact Kd.M_row (Kd.R_mono (Kd.R_tight rfl (Kd.R_lower HR2.out HM.out)) (fun _ h_ => h_))); (case aO => exact fun k hk => ⟨trivial, fun hk2 => by have h5 := HBM.out k hk.symm; have h6 := HUM.out k hk2.symm; omega⟩); (case aF => exact fun _ _ => trivial); (case aH => exact Kd.S_mono HS2.out (fun k hk => ⟨trivial, fun hk2 => by have h5 := HBM.out k hk2.symm; omega⟩)); (case aB => exact HMW.out); (case aL => have h5 := HFIT.out.2; rw [List.length_append] at h5; omega); intro v1 w1 hS1 hg hat; have hne : some w.heap.size ≠ u.ownBlock := (fun e => by have h6 := HUM.out _ e.symm; omega); have hu1 : w1.heap[w.heap.size]? = some (.cells #[u] 30 (0, 0)) := (hg.block _ (blk_lt HU.out) hne).trans HU.out; have hf1 : w1.heap[w.heap.size + 1]? = some (.cells #[.int .i64 (a : Int)] 3 (0, 0)) := (hg.block _ (blk_lt HF.out) (fun e => by have h6 := HUM.out _ e.symm; omega)).trans HF.out; have c1 : w1.cell? ⟨w.heap.size, 0, none⟩ = some u := (by simp [World.cell?, hu1]); have c2 : w1.frozen? ⟨w.heap.size, 0, none⟩ = false := (by simp [World.frozen?, hu1]); have hf2 : (w1.setCell ⟨w.heap.size, 0, none⟩ v1).heap[w.heap.size + 1]? = some (.cells #[.int .i64 (a : Int)] 3 (0, 0)) := (Below.heap_setCell w1 ⟨w.heap.size, 0, none⟩ v1 _ (by simp)).trans hf1; have c3 : (w1.setCell ⟨w.heap.size, 0, none⟩ v1).cell? ⟨w.heap.size + 1, 0, none⟩ = some (.int .i64 (a : Int)) := (by simp [World.cell?, hf2]); have c4 : (w1.setCell ⟨w.heap.size, 0, none⟩ v1).frozen? ⟨w.heap.size + 1, 0, none⟩ = false := (by simp [World.frozen?, hf2]); have HS1 := Aside0.mk hS1; have HG := Aside0.mk hg; have HU1 := Aside0.mk hu1; have HF1 := Aside0.mk hf1; obtain ⟨Aw, cw, rfl⟩ := Kd.S_slice hS1; simp only [List.length_append, List.length_singleton] at c3 c4; clear hS1 hg hat hne hu1 hf1 hf2))
    have hs := HSZ.out
    have hS1 := HS1.out
    have hg := HG.out
    have hw1 := hg.size
    have far : ∀ k o, w.heap.size + 2 ≤ k → k ≤ w.heap.size + 5 → W.heap[k]? = some o → ((w1.setCell ⟨w.heap.size, 0, none⟩ (.slice Aw ((frame_Scan.Pl xs).length + 1) cw)).setCell ⟨w.heap.size + 1, 0, none⟩ (.int .i64 ((a : Int) + 4 + (p.length : Int) + 4))).heap[k]? = some o := by
      intro k o hk1 hk2 ho
      refine (Below.heap_setCell _ _ _ _ (by simp; omega)).trans ((Below.heap_setCell _ _ _ _ (by simp; omega)).trans ((hg.block k (blk_lt ho) (fun e => ?_)).trans ho))
      have h6 := HUM.out _ e.symm
      omega
    refine ⟨fun k o hk1 hk2 ho => far k o (by omega) (by omega) ho, a + 4 + p.length + 4, ?_, ⟨⟨_, (Below.heap_setCell _ _ _ _ (by simp)).trans (blk_set HU1.out 0 _), ?_⟩, ?_, far _ _ (Nat.le_refl _) (by omega) HI.out, ?_, fun _ => far _ _ (by omega) (Nat.le_refl _) HCC.out⟩, fun _ => ?_⟩
    · rw [show frame_Scan.Pl (xs ++ [((a : Int), p, Value.slice Av p.length cv)]) = frame_Scan.Pl xs ++ [p] from by simp [frame_Scan.Pl]]
      exact HPU2.out
    · rw [show frame_Scan.Pl (xs ++ [((a : Int), p, Value.slice Av p.length cv)]) = frame_Scan.Pl xs ++ [p] from by simp [frame_Scan.Pl]]
      rw [List.length_append, List.length_singleton] at hS1
      exact Kd.S_mono (Kd.S_far (Kd.S_far (Kd.S_bound hS1) (fun k hk => by have := hk.2.1; simp; omega) _) (fun k hk => by have := hk.2.1; simp; omega) _) (fun _ _ => trivial)
    · have h7 := blk_set ((Below.heap_setCell w1 ⟨w.heap.size, 0, none⟩ (.slice Aw ((frame_Scan.Pl xs).length + 1) cw) _ (by simp)).trans HF1.out) 0 (.int .i64 ((a : Int) + 4 + (p.length : Int) + 4))
      rw [show (((a + 4 + p.length + 4 : Nat)) : Int) = (a : Int) + 4 + (p.length : Int) + 4 from by omega]
      exact h7
    · exact Below.setCell (Below.setCell (HB.out.grown hg (by have := HMW.out; omega) (fun k e => by have h6 := HUM.out k e; omega)) (Nat.le_refl _) _) (by simp) _
    · have := HLT.out
      simp only [World.setCell, Array.size_modify]
      omega
  case done =>
    rintro xs W hS ⟨a, hpu, hh, hlt⟩ hK
    obtain ⟨hf, hr2⟩ := frame_Scan.done_ hpu hS
    obtain ⟨⟨u, hu, hSS⟩, hfi, hi, hb, hc⟩ := hh
    have hdec := frame_Decode.calls A0 c0 l0 (a : Int) [] (a : Int) r3 W (Kd.C_below HR.out hb) HC.out (laid_at HL.out hb) hf
    have hs := HSZ.out
    rw [hs] at hK
    have c1 : W.cell? ⟨w.heap.size, 0, none⟩ = some u := by simp [World.cell?, hu]
    have c2 : W.cell? ⟨w.heap.size + 1, 0, none⟩ = some (.int .i64 (a : Int)) := by simp [World.cell?, hfi]
    have HK := Aside0.mk hK
    have HU := Aside0.mk hu
    have HF := Aside0.mk hfi
    have HB := Aside0.mk hb
    have HS := Aside0.mk hSS
    have HE := Aside0.mk hS
    have HR2 := Aside0.mk hr2
    clear hf hK hu hfi hb hSS hS hr2 hi hc hpu hlt
    obtain ⟨Au, cu, rfl⟩ := Kd.S_slice HS.out
    gi_wp2_with (first | (refine ⟨trivial, ?_⟩; refine ((callsIn_wide (n := 8)).2 hdec).mono ?_; clear hdec; rintro e w2 ⟨v2, rfl, ho2, hb2⟩; have hu2 := (hb2.block _ (blk_lt HU.out)).trans HU.out; have hf2 := (hb2.block _ (blk_lt HF.out)).trans HF.out; have c3 : w2.cell? ⟨w.heap.size, 0, none⟩ = some (.slice Au (frame_Scan.Pl xs).length cu) := (by simp [World.cell?, hu2]); have c4 : w2.cell? ⟨w.heap.size + 1, 0, none⟩ = some (.int .i64 (a : Int)) := (by simp [World.cell?, hf2]); have c5 : w2.frozen? ⟨w.heap.size, 0, none⟩ = false := (by simp [World.frozen?, hu2]); have c6 : w2.frozen? ⟨w.heap.size + 1, 0, none⟩ = false := (by simp [World.frozen?, hf2]); have FIN := Aside0.mk (show frame_Scan.Fin w (.slice Au (frame_Scan.Pl xs).length cu) (a : Int) (frame_Scan.Pl xs) w2 from ⟨hu2, hf2, Kd.S_below HS.out hb2, (hb2.block _ (blk_lt HK.out)).trans HK.out, HB.out.trans (hb2.mono HB.out.size)⟩); clear ho2 hb2 hu2 hf2 c3 c4 c5 c6))
    refine wpIn_wide.2 ?_
    clear c1 c2
    go_region_held3 (fun w' => frame_Scan.Fin w (.slice Au (frame_Scan.Pl xs).length cu) (a : Int) (frame_Scan.Pl xs) w' ∧ w'.cell? ⟨w.heap.size, 0, none⟩ = some (.slice Au (frame_Scan.Pl xs).length cu) ∧ w'.cell? ⟨w.heap.size + 1, 0, none⟩ = some (.int .i64 (a : Int)) ∧ w'.frozen? ⟨w.heap.size, 0, none⟩ = false ∧ w'.frozen? ⟨w.heap.size + 1, 0, none⟩ = false) (first | exact (FIN.out.drew).all | exact frame_Scan.FinS.set0 (by assumption) | exact frame_Scan.FinS.set1 (by assumption) | assumption) (fail)
    gi_wp2
    have hfin := FIN.out.set0.set1.drew
    refine ⟨by simp, .inl ⟨_, _, rfl, run_takeDeferred hfin.mark, ?_⟩⟩
    have hp := hfin.put3 (.deferred none)
    have k0 := hp.c0
    have k1 := hp.c1
    generalize (((w2.setCell ⟨w.heap.size, 0, none⟩ (Value.slice Au (frame_Scan.Pl xs).length cu)).setCell ⟨w.heap.size + 1, 0, none⟩ (Value.int IntKind.i64 (a : Int))).drew.putObj (w.heap.size + 3) (Obj.deferred none)) = WF at hp k0 k1 ⊢
    refine ⟨.tuple #[.slice Au (frame_Scan.Pl xs).length cu, .int .i64 (a : Int), .int .i64 r3], ?_, _, by rw [HR2.out], ?_, hp.below⟩
    · simp [results, Tryd.results28, asAddr, loadVar, k0, k1, go_sem]
    · rw [HE.out]; exact Kd.S_lower hp.shelf (by omega)
end

/-! ### arrearslaw6_copied: function 30 -/
def arrearslaw6_copied.l0 : Nat → List Int → List Int → Int → Option (List Int)
  | 0, _, _, _ => none
  | k + 1, x0, x3, x4 => if x4 < (x0.length : Int) then (if 0 ≤ x4 then (if x3.length < 140737488355328 then (arrearslaw6_copied.l0 k x0 (x3 ++ [rd x0 x4]) (wrap64 (x4 + 1))) else (none)) else (none)) else (some x3)
def arrearslaw6_copied.f (k : Nat) (l0 : List Int) : Option (List Int) := arrearslaw6_copied.l0 k l0 ([] : List Int) 0
theorem arrearslaw6_copied.mono_l : ∀ k, (∀ y0 y1 y2, LeO (arrearslaw6_copied.l0 k y0 y1 y2) (arrearslaw6_copied.l0 (k + 1) y0 y1 y2))
  | 0 => fun _ _ _ r h => by simp [arrearslaw6_copied.l0] at h
  | k + 1 => by
    have ih0 := arrearslaw6_copied.mono_l k
    · intro y0 y1 y2
      unfold arrearslaw6_copied.l0
      repeat' first
      | (with_reducible exact ih0 _ _ _)
      | (with_reducible exact LeO.refl _)
      | (with_reducible exact LeO.none _)
      | (with_reducible refine LeO.ite ?_ ?_)
      | (with_reducible refine LeO.bind ?_ (fun _ => ?_))
      | exact ih0 _ _ _
      | exact LeO.none _
      | refine LeO.ite ?_ ?_
      | refine LeO.bind ?_ (fun _ => ?_)
theorem arrearslaw6_copied.mono : ∀ a0 k, LeO (arrearslaw6_copied.f k a0) (arrearslaw6_copied.f (k + 1) a0) := by
  intro a0 k
  have ih0 := arrearslaw6_copied.mono_l k
  unfold arrearslaw6_copied.f
  repeat' first
      | (with_reducible exact ih0 _ _ _)
      | (with_reducible exact LeO.refl _)
      | (with_reducible exact LeO.none _)
      | (with_reducible refine LeO.ite ?_ ?_)
      | (with_reducible refine LeO.bind ?_ (fun _ => ?_))
      | exact ih0 _ _ _
      | exact LeO.none _
      | refine LeO.ite ?_ ?_
      | refine LeO.bind ?_ (fun _ => ?_)
set_option maxHeartbeats 8000000 in
set_option maxRecDepth 100000 in
theorem arrearslaw6_copied.calls (k : Nat) (A0 : Option Addr) (c0 : Nat) (l0 : List Int) (r : List Int) (w : World) (hr0 : Kd.C (Kd.int .u8) w A0 l0.length l0) (hc0 : l0.length ≤ c0) (h : arrearslaw6_copied.f k l0 = some r) :
    Calls Tryd.prog 30 #[.slice A0 l0.length c0] w fun e w' => ∃ v0_ : Value, e = .returned (v0_) ∧ Kd.R (Kd.int .u8) 5 w' w.heap.size (fun _ => True) v0_ r ∧ Below w.heap.size w w' := by
  have HR0 := Aside0.mk hr0
  have HC0 := Aside0.mk hc0
  clear hr0 hc0
  have HB := Aside0.mk (Below.refl w.heap.size w)
  have H : (arrearslaw6_copied.l0 k l0 ([] : List Int) 0) = some r := h
  clear h
  have H' := Aside0.mk H
  clear H
  go_enter Tryd.func30, Tryd.ntmps30
  go_wp2
  go_loopg [3, 4] k (fun kq v3 v4 w' => ∃ (x3_1 : List Int) (x4_1 : Int), v4 = .int .i64 x4_1 ∧ Aside0 (arrearslaw6_copied.l0 kq l0 x3_1 x4_1 = some r) ∧ Aside0 (kq ≤ k) ∧ Aside0 (Kd.R (Kd.int .u8) 5 w' w.heap.size (fun _ => True) v3 x3_1) ∧ Aside0 (Below w.heap.size w w'))
  case atStart => exact ⟨(([] : List Int)), (0), (by first | rfl | (simp; done) | (simp [*]; done)), H', ⟨Nat.le_refl _⟩, ⟨by first | exact Kd.R_nil _ _ _ _ _ | exact Kd.N_nil _ _ _ _ _ | exact Kd.V_nil _ _ _ _ _ | exact Kd.Q_nil _ _ _ _ _ | exact Kd.S_nil _ _ _ _ _⟩, ⟨by repeat (first | (with_reducible first | exact HB.out | apply below_alloc | apply pw_below_drewN | apply below_drew1) | exact HB.out)⟩⟩
  case round =>
    clear H'
    obtain ⟨x3_1, x4_1, rfl, HA, HK1, HO_3, HB⟩ := hrel
    cases gk with
    | zero => exact absurd HA.out (by simp [arrearslaw6_copied.l0])
    | succ k1 =>
      have H := HA.out
      clear HA
      simp only [arrearslaw6_copied.l0] at H
      by_cases c2 : x4_1 < (l0.length : Int)
      · rw [if_pos c2] at H
        have c2b0 : decide (x4_1 < (l0.length : Int)) = true := decide_eq_true c2
        clear c2
        by_cases c3 : 0 ≤ x4_1
        · rw [if_pos c3] at H
          have c3b0 : decide (0 ≤ x4_1) = true := decide_eq_true c3
          clear c3
          by_cases c4 : x3_1.length < 140737488355328
          · rw [if_pos c4] at H
            have LMc4 := Aside0.mk c4
            clear c4
            obtain ⟨y109, hy109⟩ : ∃ y_ : List Int, y_ = (x3_1 ++ [rd l0 x4_1]) := ⟨_, rfl⟩
            replace H : (arrearslaw6_copied.l0 k1 l0 y109 (wrap64 (x4_1 + 1))) = some r := by first | (rw [hy109]; with_reducible exact H) | (have H2_ := (Option.bind_some _ _).symm.trans H; rw [hy109]; with_reducible exact H2_) | (have H2_ := (Option.bind_some _ _).symm.trans H; with_reducible exact H2_) | with_reducible exact H | (rw [hy109]; exact H) | exact H
            have Ny109 := Aside0.mk hy109
            clear hy109
            have H' := Aside0.mk H
            clear H
            have p108 : 0 ≤ (x4_1 : Int) := of_decide_eq_true (by first | (with_reducible assumption) | assumption)
            have q108 : x4_1 < (l0.length : Int) := of_decide_eq_true (by first | (with_reducible assumption) | assumption)
            obtain ⟨ad108, e108, hx108_0⟩ := Kd.at_int HR0.out x4_1 p108 q108
            cases e108
            replace hx108_0 := (HB.out.cell (World.block_lt_of_cell? w _ hx108_0)).trans hx108_0
            replace p108 := eq_true p108
            replace q108 := eq_true q108
            go_wp2_with (first | ((with_reducible refine gate_builtin (b := .append) (xs := #[.tmp 11, .tmp 16]) rfl ?_); at_builtin; refine Kd.R_append (Kd.int .u8) (w0 := w) w.heap.size rfl (.tmp 11) (.tmp 16) 23 5 (.int .u8 0) 1 rfl Tryd.underlying23 info5 rfl (by decide) (by omega) u3 x3_1 (rd l0 x4_1) [.int .u8 (rd l0 x4_1)] (fun _ => True) (fun _ => False) rfl rfl ?aP (fun _ hk => hk.elim) ?aF ?aO ?aB ?aS ?aL ?_; (case aP => exact rfl); (case aB => exact (by repeat (first | (with_reducible first | exact HB.out | apply below_alloc | apply pw_below_drewN | apply below_drew1) | exact HB.out))); (case aF => exact (fun _ _ => trivial)); (case aO => exact (by (with_reducible repeat (first | apply Kd.R_alloc | apply Kd.R_drewN | apply Kd.R_drew)); exact HO_3.out)); (case aS => exact (below_size (by repeat (first | (with_reducible first | exact HB.out | apply below_alloc | apply pw_below_drewN | apply below_drew1) | exact HB.out)))); (case aL => have := LMc4.out; omega); intro v110 w5 ho hb hg hat; rw [← Ny109.out] at ho; have n0_ := Aside0.mk (hb); have n1_ := Aside0.mk (ho); clear HB; clear HO_3; have HB := n0_; have HO111 := n1_; clear n0_ n1_; clear ho hb hg hat))
            go_roundg k1
            case measure => have := HK1.out; omega
            case rel => exact ⟨(y109), (wrap64 (x4_1 + 1)), (by first | rfl | (simp; done) | (simp [*]; done)), H', ⟨by have := HK1.out; omega⟩, ⟨by (with_reducible repeat (first | apply Kd.R_alloc | apply Kd.R_drewN | apply Kd.R_drew)); exact HO111.out⟩, ⟨by repeat (first | (with_reducible first | exact HB.out | apply below_alloc | apply pw_below_drewN | apply below_drew1) | exact HB.out)⟩⟩
          · rw [if_neg c4] at H
            exact absurd H (by simp)
        · rw [if_neg c3] at H
          exact absurd H (by simp)
      · rw [if_neg c2] at H
        have c2b0 : decide (x4_1 < (l0.length : Int)) = false := decide_eq_false c2
        clear c2
        obtain rfl := Option.some.inj H
        go_wp2
        go_ret
        exact ⟨_, by first | rfl | (simp [errW_none, errW_some] <;> rfl) | (simp [*, errW_none, errW_some] <;> rfl), by (with_reducible repeat (first | apply Kd.R_alloc | apply Kd.R_drewN | apply Kd.R_drew)); exact HO_3.out, by repeat (first | (with_reducible first | exact HB.out | apply below_alloc | apply pw_below_drewN | apply below_drew1) | exact HB.out)⟩

/-! ### frame_put: function 46 -/
def frame_put.f (l0 : List Int) (a1 : Int) : Option (List Int) := (some (([(a1) % 256, (a1 / 256) % 256, (a1 / 65536) % 256, (a1 / 16777216) % 256] : List Int) : List Int)).bind fun y112 => (if l0.length + y112.length < 140737488355328 then (some (l0 ++ y112)) else (none))
set_option maxHeartbeats 8000000 in
set_option maxRecDepth 100000 in
theorem frame_put.calls (P0_ : Nat → Prop) (u9000_ : Value) (l0 : List Int) (a1 : Int) (r : List Int) (w0 w : World) (hB : Below w0.heap.size w0 w) (ho0 : Kd.R (Kd.int .u8) 5 w w0.heap.size P0_ u9000_ l0) (h : frame_put.f l0 a1 = some r) :
    Calls Tryd.prog 46 #[u9000_, .int .u32 a1] w fun e w' => ∃ v0_ : Value, e = .returned (v0_) ∧ Kd.R (Kd.int .u8) 5 w' w0.heap.size (fun k_ => (P0_ k_ ∨ w.heap.size ≤ k_)) v0_ r ∧ Below w0.heap.size w0 w' ∧ Kept w w' (fun k_ => P0_ k_) := by
  have HO0 := Aside0.mk (show Kd.R (Kd.int .u8) 5 w w0.heap.size (fun k_ => (P0_ k_ ∨ w.heap.size ≤ k_)) u9000_ l0 from Kd.R_mono ho0 (fun k_ hk => (.inl hk)))
  have HK := Aside0.mk (Kept.refl w (fun k_ => P0_ k_))
  have HW0 := Aside0.mk hB.size
  have HB := Aside0.mk hB
  clear hB
  have H : ((some (([(a1) % 256, (a1 / 256) % 256, (a1 / 65536) % 256, (a1 / 16777216) % 256] : List Int) : List Int)).bind fun y112 => (if l0.length + y112.length < 140737488355328 then (some (l0 ++ y112)) else (none))) = some r := h
  clear h
  obtain ⟨y112, hy112⟩ : ∃ y_ : List Int, y_ = (([(a1) % 256, (a1 / 256) % 256, (a1 / 65536) % 256, (a1 / 16777216) % 256] : List Int)) := ⟨_, rfl⟩
  replace H : (if l0.length + y112.length < 140737488355328 then (some (l0 ++ y112)) else (none)) = some r := by first | (rw [hy112]; with_reducible exact H) | (have H2_ := (Option.bind_some _ _).symm.trans H; rw [hy112]; with_reducible exact H2_) | (have H2_ := (Option.bind_some _ _).symm.trans H; with_reducible exact H2_) | with_reducible exact H | (rw [hy112]; exact H) | exact H
  have Ny112 := Aside0.mk hy112
  clear hy112
  by_cases c3 : l0.length + y112.length < 140737488355328
  · rw [if_pos c3] at H
    have LMc3 := Aside0.mk c3
    clear c3
    obtain ⟨y115, hy115⟩ : ∃ y_ : List Int, y_ = (l0 ++ y112) := ⟨_, rfl⟩
    replace H : (some y115) = some r := by first | (rw [hy115]; with_reducible exact H) | (have H2_ := (Option.bind_some _ _).symm.trans H; rw [hy115]; with_reducible exact H2_) | (have H2_ := (Option.bind_some _ _).symm.trans H; with_reducible exact H2_) | with_reducible exact H | (rw [hy115]; exact H) | exact H
    have Ny115 := Aside0.mk hy115
    clear hy115
    obtain rfl := Option.some.inj H
    go_enter Tryd.func46, Tryd.ntmps46
    go_wp2_with (first | ((with_reducible refine gate_dst (N := 17) rfl ?_); refine Kd.R_lit (Kd.int .u8) _ 5 ?hg (N := 17) ?hd (xs := ([(a1) % 256, (a1 / 256) % 256, (a1 / 65536) % 256, (a1 / 16777216) % 256] : List Int)) (inner := [.int .u8 ((a1) % 256), .int .u8 ((a1 / 256) % 256), .int .u8 ((a1 / 65536) % 256), .int .u8 ((a1 / 16777216) % 256)]) (ok := fun _ => True) (okp := fun _ => True) ?hr ?hp (fun _ hk => hk) trivial (Below.refl _ _) (Nat.le_refl _) (by simp) ?_; (case hd => rfl); (case hg => rfl); (case hr => first | (go_simp; done) | (go_simp; rfl)); (case hp => exact (Reps.one (show Kd.M (Kd.int .u8) _ _ _ ((a1) % 256) [.int .u8 ((a1) % 256)] from rfl) (Reps.one (show Kd.M (Kd.int .u8) _ _ _ ((a1 / 256) % 256) [.int .u8 ((a1 / 256) % 256)] from rfl) (Reps.one (show Kd.M (Kd.int .u8) _ _ _ ((a1 / 65536) % 256) [.int .u8 ((a1 / 65536) % 256)] from rfl) (Reps.one (show Kd.M (Kd.int .u8) _ _ _ ((a1 / 16777216) % 256) [.int .u8 ((a1 / 16777216) % 256)] from rfl) (Reps.none _ _)))))); intro v113 w4 ho5 hb hg_ hnew_; clear hg_ hnew_; (first | rw [← Ny112.out] at ho5 | (simp only [Int.reduceToNat] at ho5; rw [← Ny112.out] at ho5)); have n0_ := Aside0.mk (Kd.R_elder' (by (with_reducible repeat (first | apply Kd.R_alloc | apply Kd.R_drewN | apply Kd.R_drew)); exact HO0.out) (Kd.R_base ho5) hb); have n1_ := Aside0.mk (Kd.R_lower (Kd.R_new' (Kd.R_newM (M := fun k_ => (P0_ k_ ∨ w.heap.size ≤ k_)) ho5 (by first | exact HK.out.1 | exact (show Kept w _ (fun k_ => P0_ k_) from by repeat (first | (with_reducible first | exact HK.out | apply Kept.alloc | apply Kept.drewN | apply Kept.drew) | exact HK.out)).1) (fun k_ h_ => .inr h_)) (Kd.R_lt (by (with_reducible repeat (first | apply Kd.R_alloc | apply Kd.R_drewN | apply Kd.R_drew)); exact HO0.out))) (below_size (by repeat (first | (with_reducible first | exact HB.out | apply below_alloc | apply pw_below_drewN | apply below_drew1) | exact HB.out)))); have n2_ := Aside0.mk (Kept.below (S := (fun k_ => P0_ k_)) (by repeat (first | (with_reducible first | exact HK.out | apply Kept.alloc | apply Kept.drewN | apply Kept.drew) | exact HK.out)) hb); have n3_ := Aside0.mk (below_step (by repeat (first | (with_reducible first | exact HB.out | apply below_alloc | apply pw_below_drewN | apply below_drew1) | exact HB.out)) hb); clear HO0; clear HK; clear HB; have HO0 := n0_; have HO114 := n1_; have HK := n2_; have HB := n3_; clear n0_ n1_ n2_ n3_; clear hb ho5; obtain ⟨Ao7, co7, eo7⟩ := Kd.R_slice HO114.out; subst eo7) | ((with_reducible refine gate_builtin (b := .append) (xs := #[.tmp 5, .tmp 17]) rfl ?_); at_builtin; refine Kd.R_append_rows (Kd.int .u8) (w0 := w0) w0.heap.size rfl (.tmp 5) (.tmp 17) 23 5 (.int .u8 0) 1 rfl Tryd.underlying23 info5 rfl (by decide) (by omega) u9000_ l0 y112 _ _ _ (fun k_ => (P0_ k_ ∨ w.heap.size ≤ k_) ∧ some k_ ≠ (.slice Ao7 y112.length co7 : Value).ownBlock) (fun _ => False) rfl rfl ?aO ?aR (fun _ _ h => h) (fun _ h => h.elim) ?aF ?aB ?aS ?aL ?_; (case aR => repeat (first | exact (Kd.R_reads' HO114.out).2.2 | (with_reducible refine Kd.C_alloc ?_ _) | (with_reducible refine Kd.C_drewN ?_ _) | (with_reducible refine Kd.C_drew ?_))); (case aB => exact (by repeat (first | (with_reducible first | exact HB.out | apply below_alloc | apply pw_below_drewN | apply below_drew1) | exact HB.out))); (case aF => exact (fun k_ hk => ⟨(.inr (Nat.le_trans (by first | exact HK.out.1 | exact (show Kept w _ (fun k_ => P0_ k_) from by repeat (first | (with_reducible first | exact HK.out | apply Kept.alloc | apply Kept.drewN | apply Kept.drew) | exact HK.out)).1) hk)), Kd.fresh' (Kd.R_lt (by (with_reducible repeat (first | apply Kd.R_alloc | apply Kd.R_drewN | apply Kd.R_drew)); exact HO114.out)) k_ hk⟩)); (case aO => exact (by (with_reducible repeat (first | apply Kd.R_alloc | apply Kd.R_drewN | apply Kd.R_drew)); exact HO0.out)); (case aS => exact (below_size (by repeat (first | (with_reducible first | exact HB.out | apply below_alloc | apply pw_below_drewN | apply below_drew1) | exact HB.out)))); (case aL => have := LMc3.out; omega); intro v116 w6 ho hb hg hat; rw [← Ny115.out] at ho; have n0_ := Aside0.mk (Kd.R_after (ok := (fun k_ => (P0_ k_ ∨ w.heap.size ≤ k_))) (by (with_reducible repeat (first | apply Kd.R_alloc | apply Kd.R_drewN | apply Kd.R_drew)); exact Kd.R_mono HO114.out (fun _ hk => ⟨hk.1.1, hk.2⟩)) hg hat); have n1_ := Aside0.mk (hb); have n2_ := Aside0.mk (Kept.of_grown (S := (fun k_ => P0_ k_)) hg (by repeat (first | (with_reducible first | exact HK.out | apply Kept.alloc | apply Kept.drewN | apply Kept.drew) | exact HK.out)) (fun k_ e_ => (HO0.out.1 k_ e_).1)); have n3_ := Aside0.mk (ho); clear HO114; clear HB; clear HK; clear HO0; have HO114 := n0_; have HB := n1_; have HK := n2_; have HO117 := n3_; clear n0_ n1_ n2_ n3_; clear ho hb hg hat))
    go_ret
    exact ⟨_, by first | rfl | (simp [errW_none, errW_some] <;> rfl) | (simp [*, errW_none, errW_some] <;> rfl), by (with_reducible repeat (first | apply Kd.R_alloc | apply Kd.R_drewN | apply Kd.R_drew)); exact Kd.R_mono HO117.out (fun _ hk => hk.1), by repeat (first | (with_reducible first | exact HB.out | apply below_alloc | apply pw_below_drewN | apply below_drew1) | exact HB.out), by repeat (first | (with_reducible first | exact HK.out | apply Kept.alloc | apply Kept.drewN | apply Kept.drew) | exact HK.out)⟩
  · rw [if_neg c3] at H
    exact absurd H (by simp)

/-! ### frame_Encode: function 34 (by hand) -/
def frame_Encode.f (l0 : List Int) : Option (List Int × Bool) := if (l0.length : Int) > 4194304 then some ([], false) else (frame_put.f [] (l0.length : Int)).bind fun p => (frame_Sum.f (p ++ l0)).bind fun z => (frame_put.f (p ++ l0) z).bind fun q => if p.length + l0.length < 100000000 then some (q, true) else none
theorem frame_Encode.info8 : (Tryd.prog.info? 5).map (fun i => (i.zero, i.size, i.bytes)) = some (some (.int .u8 0), 1, 1) := by kernel_rfl
set_option maxRecDepth 100000 in
set_option maxHeartbeats 4000000 in
theorem frame_Encode.calls (A0 : Option Addr) (c0 : Nat) (l0 : List Int) (r1 : List Int) (r2 : Bool) (w : World) (hr0 : Kd.C (Kd.int .u8) w A0 l0.length l0) (hc0 : l0.length ≤ c0) (hL : Laid w) (h : frame_Encode.f l0 = some (r1, r2)) :
    Calls Tryd.prog 34 #[.slice A0 l0.length c0] w fun e w' => ∃ v0_ : Value, e = .returned (.tuple #[v0_, .bool r2]) ∧ Kd.R (Kd.int .u8) 5 w' w.heap.size (fun _ => True) v0_ r1 ∧ Below w.heap.size w w' := by
  have HL := Aside0.mk hL
  have HR := Aside0.mk hr0
  have HC := Aside0.mk hc0
  unfold frame_Encode.f at h
  clear hr0 hc0 hL
  by_cases c : (l0.length : Int) > 4194304
  · rw [if_pos c] at h
    simp only [Option.some.injEq, Prod.mk.injEq] at h
    obtain ⟨rfl, rfl⟩ := h
    have d0 : decide (4194304 < (l0.length : Int)) = true := decide_eq_true c
    have d1 : decide (4194304 < l0.length) = true := decide_eq_true (by omega)
    clear c
    go_enter Tryd.func34, Tryd.ntmps34
    go_wp2
    go_ret2
    exact ⟨_, rfl, Kd.R_nil _ _ _ _ _, Below.refl _ _⟩
  · rw [if_neg c] at h
    have hlen : l0.length ≤ 4194304 := by omega
    have HLEN := Aside0.mk hlen
    have d0 : decide (4194304 < (l0.length : Int)) = false := decide_eq_false c
    have d1 : decide (4194304 < l0.length) = false := decide_eq_false (by omega)
    clear c
    obtain ⟨p, ep, h⟩ := Option.bind_eq_some_iff.mp h
    obtain ⟨z, ez, h⟩ := Option.bind_eq_some_iff.mp h
    obtain ⟨q, eq, h⟩ := Option.bind_eq_some_iff.mp h
    split at h
    case isFalse => cases h
    rename_i hlim
    simp only [Option.some.injEq, Prod.mk.injEq] at h
    obtain ⟨rfl, rfl⟩ := h
    obtain ⟨y, hy⟩ : ∃ y, y = p ++ l0 := ⟨_, rfl⟩
    rw [← hy] at ez eq
    have NY := Aside0.mk hy
    have EP := Aside0.mk ep
    have EZ := Aside0.mk ez
    have EQ := Aside0.mk eq
    have LIM := Aside0.mk hlim
    have h1 : IntKind.i64.wrap (4 + (l0.length : Int)) = 4 + (l0.length : Int) := IntWalk.i64_in _ (by omega)
    have h2 : IntKind.i64.wrap (4 + (l0.length : Int) + 4) = 4 + (l0.length : Int) + 4 := IntWalk.i64_in _ (by omega)
    have h1' : wrap64 (4 + (l0.length : Int)) = 4 + (l0.length : Int) := by unfold wrap64; omega
    have h2' : wrap64 (4 + (l0.length : Int) + 4) = 4 + (l0.length : Int) + 4 := by unfold wrap64; omega
    have hmk := Hand.make_cap Tryd.prog 23 5 .u8 1 Tryd.underlying23 frame_Encode.info8 (4 + (l0.length : Int) + 4) (by omega) (by omega) (by omega)
    have HO : Aside0 (Kd.R (Kd.int .u8) 5 (w.alloc (.cells (madeCells #[.int .u8 0] (4 + l0.length + 4)) 5)) w.heap.size (fun _ => True) (.slice (some ⟨w.heap.size, 0, none⟩) 0 (4 + l0.length + 4)) []) := ⟨Hand.R_of_own (Hand.own_made0 w w.heap.size 5 .u8 (4 + l0.length + 4) (Nat.le_refl _) (by omega))⟩
    have HB := Aside0.mk (below_alloc (Below.refl w.heap.size w) (.cells (madeCells #[.int .u8 0] (4 + l0.length + 4)) 5))
    clear ep ez eq hlim hy
    go_enter Tryd.func34, Tryd.ntmps34
    go_wp2_with (first | (go_at_call 46; (with_reducible refine (frame_put.calls (fun _ => True) _ [] (l0.length : Int) p w _ ?b ?o EP.out).mono ?_); (case b => exact HB.out); (case o => exact HO.out); rintro e w1 ⟨v1, rfl, ho1, hb1, hk1⟩; have HO1 := Aside0.mk (Kd.R_mono (ok' := fun _ => True) ho1 (fun _ _ => trivial)); have HB1 := Aside0.mk hb1; clear HO HB ho1 hb1 hk1) | ((with_reducible refine gate_builtin (b := .append) (xs := #[.tmp 18, .tmp 19]) rfl ?_); at_builtin; refine Kd.R_append_rows (Kd.int .u8) (w0 := w) w.heap.size rfl (.tmp 18) (.tmp 19) 23 5 (.int .u8 0) 1 rfl Tryd.underlying23 frame_Encode.info8 rfl (by decide) (by omega) v1 p l0 _ _ _ (fun _ => True) (fun _ => False) rfl rfl ?aO ?aR (fun _ _ h => h) (fun _ h => h.elim) ?aF ?aB ?aS ?aL ?_; (case aR => exact Kd.C_below HR.out HB1.out); (case aB => exact HB1.out); (case aF => exact fun _ _ => trivial); (case aO => exact HO1.out); (case aS => exact below_size HB1.out); (case aL => have := LIM.out; omega); intro v2 w2 ho hb hg hat; rw [← NY.out] at ho; have HO2 := Aside0.mk ho; have HB2 := Aside0.mk hb; clear HO1 HB1 ho hb hg hat; obtain ⟨Ao, co, eo⟩ := Kd.R_slice HO2.out; subst eo) | (go_at_call 14; (with_reducible refine (frame_Sum.calls _ _ y z _ ?c1 ?c2 ?cl EZ.out).mono ?_); (case cl => exact laid_at HL.out HB2.out); (case c1 => exact (Kd.R_reads' HO2.out).2.2); (case c2 => exact (Kd.R_reads' HO2.out).2.1); rintro e w3 ⟨rfl, ⟨nd, rfl⟩⟩) | (go_at_call 46; (with_reducible refine (frame_put.calls (fun _ => True) _ y z q w _ ?b ?o EQ.out).mono ?_); (case b => exact pw_below_drewN HB2.out nd); (case o => (with_reducible repeat (first | apply Kd.R_alloc | apply Kd.R_drewN | apply Kd.R_drew)); exact HO2.out); rintro e w4 ⟨v4, rfl, ho4, hb4, hk4⟩; have HO4 := Aside0.mk (Kd.R_mono (ok' := fun _ => True) ho4 (fun _ _ => trivial)); have HB4 := Aside0.mk hb4; clear HO2 HB2 ho4 hb4 hk4))
    go_ret2
    exact ⟨_, rfl, HO4.out, HB4.out⟩

/-! ### arrearslaw6_plus: function 35 -/
def arrearslaw6_plus.l0 : Nat → List Int → List Int → Int → Option (List Int)
  | 0, _, _, _ => none
  | k + 1, x1, x5, x6 => if x6 < (x1.length : Int) then (if 0 ≤ x6 then (if x5.length < 140737488355328 then (arrearslaw6_plus.l0 k x1 (x5 ++ [rd x1 x6]) (wrap64 (x6 + 1))) else (none)) else (none)) else (some x5)
def arrearslaw6_plus.f (k : Nat) (l0 : List Int) (l1 : List Int) : Option (List Int) := (arrearslaw6_copied.f k l0).bind fun t118 => (arrearslaw6_plus.l0 k l1 t118 0)
theorem arrearslaw6_plus.mono_l : ∀ k, (∀ y0 y1 y2, LeO (arrearslaw6_plus.l0 k y0 y1 y2) (arrearslaw6_plus.l0 (k + 1) y0 y1 y2))
  | 0 => fun _ _ _ r h => by simp [arrearslaw6_plus.l0] at h
  | k + 1 => by
    have ih0 := arrearslaw6_plus.mono_l k
    · intro y0 y1 y2
      unfold arrearslaw6_plus.l0
      repeat' first
      | (with_reducible exact ih0 _ _ _)
      | (with_reducible exact arrearslaw6_copied.mono _ _)
      | (with_reducible exact LeO.refl _)
      | (with_reducible exact LeO.none _)
      | (with_reducible refine LeO.ite ?_ ?_)
      | (with_reducible refine LeO.bind ?_ (fun _ => ?_))
      | exact ih0 _ _ _
      | exact arrearslaw6_copied.mono _ _
      | exact LeO.none _
      | refine LeO.ite ?_ ?_
      | refine LeO.bind ?_ (fun _ => ?_)
theorem arrearslaw6_plus.mono : ∀ a0 a1 k, LeO (arrearslaw6_plus.f k a0 a1) (arrearslaw6_plus.f (k + 1) a0 a1) := by
  intro a0 a1 k
  have ih0 := arrearslaw6_plus.mono_l k
  unfold arrearslaw6_plus.f
  repeat' first
      | (with_reducible exact ih0 _ _ _)
      | (with_reducible exact arrearslaw6_copied.mono _ _)
      | (with_reducible exact LeO.refl _)
      | (with_reducible exact LeO.none _)
      | (with_reducible refine LeO.ite ?_ ?_)
      | (with_reducible refine LeO.bind ?_ (fun _ => ?_))
      | exact ih0 _ _ _
      | exact arrearslaw6_copied.mono _ _
      | exact LeO.none _
      | refine LeO.ite ?_ ?_
      | refine LeO.bind ?_ (fun _ => ?_)
set_option maxHeartbeats 8000000 in
set_option maxRecDepth 100000 in
theorem arrearslaw6_plus.calls (k : Nat) (A0 : Option Addr) (c0 : Nat) (l0 : List Int) (A1 : Option Addr) (c1 : Nat) (l1 : List Int) (r : List Int) (w : World) (hr0 : Kd.C (Kd.int .u8) w A0 l0.length l0) (hc0 : l0.length ≤ c0) (hr1 : Kd.C (Kd.int .u8) w A1 l1.length l1) (hc1 : l1.length ≤ c1) (h : arrearslaw6_plus.f k l0 l1 = some r) :
    Calls Tryd.prog 35 #[.slice A0 l0.length c0, .slice A1 l1.length c1] w fun e w' => ∃ v0_ : Value, e = .returned (v0_) ∧ Kd.R (Kd.int .u8) 5 w' w.heap.size (fun _ => True) v0_ r ∧ Below w.heap.size w w' := by
  have HR0 := Aside0.mk hr0
  have HC0 := Aside0.mk hc0
  clear hr0 hc0
  have HR1 := Aside0.mk hr1
  have HC1 := Aside0.mk hc1
  clear hr1 hc1
  have HB := Aside0.mk (Below.refl w.heap.size w)
  have H : ((arrearslaw6_copied.f k l0).bind fun t118 => (arrearslaw6_plus.l0 k l1 t118 0)) = some r := h
  clear h
  replace H := Option.bind_eq_some_iff.mp H
  obtain ⟨t118, A30, H⟩ := H
  replace H : (arrearslaw6_plus.l0 k l1 t118 0) = some r := H
  have A3 := Aside0.mk A30
  clear A30
  have H' := Aside0.mk H
  clear H
  go_enter Tryd.func35, Tryd.ntmps35
  go_wp2_with (first | ((with_reducible refine gate_callee (f := 30) rfl ?_); refine goesL_ (some 8) rfl rfl Tryd.func30 (by kernel_rfl) rfl #[.slice A0 l0.length c0] rfl (by (try simp only [List.map_toArray, List.map_cons, List.map_nil]); first | done | rfl | (simp only [List.length_drop, List.length_take]; rfl)) ?_; (with_reducible refine (arrearslaw6_copied.calls k _ _ l0 t118 _ ?side1 ?side2 A3.out).mono ?_); (case side1 => repeat (first | exact HR0.out | (with_reducible refine Kd.C_alloc ?_ _) | (with_reducible refine Kd.C_drewN ?_ _) | (with_reducible refine Kd.C_drew ?_))); (case side2 => exact HC0.out); rintro e w4 ⟨v119, rfl, ho0, hb⟩; refine ⟨_, rfl, ?_⟩; have n0_ := Aside0.mk (Kd.R_lower ho0 (below_size (by repeat (first | (with_reducible first | exact HB.out | apply below_alloc | apply pw_below_drewN | apply below_drew1) | exact HB.out)))); have n1_ := Aside0.mk (below_step (by repeat (first | (with_reducible first | exact HB.out | apply below_alloc | apply pw_below_drewN | apply below_drew1) | exact HB.out)) hb); clear HB; have HO120 := n0_; have HB := n1_; clear n0_ n1_; (try clear hb); (try clear hb2); (try clear hk); (try clear hi); (try clear ho0)))
  go_loopg [5, 6] k (fun kq v5 v6 w' => ∃ (x5_1 : List Int) (x6_1 : Int), v6 = .int .i64 x6_1 ∧ Aside0 (arrearslaw6_plus.l0 kq l1 x5_1 x6_1 = some r) ∧ Aside0 (kq ≤ k) ∧ Aside0 (Kd.R (Kd.int .u8) 5 w' w.heap.size (fun _ => True) v5 x5_1) ∧ Aside0 (Below w.heap.size w w'))
  case atStart => exact ⟨(t118), (0), (by first | rfl | (simp; done) | (simp [*]; done)), H', ⟨Nat.le_refl _⟩, ⟨by (with_reducible repeat (first | apply Kd.R_alloc | apply Kd.R_drewN | apply Kd.R_drew)); exact HO120.out⟩, ⟨by repeat (first | (with_reducible first | exact HB.out | apply below_alloc | apply pw_below_drewN | apply below_drew1) | exact HB.out)⟩⟩
  case round =>
    clear H'
    try clear c1
    try clear p2
    try clear c3
    obtain ⟨x5_1, x6_1, rfl, HA, HK1, HO_5, HB⟩ := hrel
    cases gk with
    | zero => exact absurd HA.out (by simp [arrearslaw6_plus.l0])
    | succ k1 =>
      have H := HA.out
      clear HA
      simp only [arrearslaw6_plus.l0] at H
      by_cases c5 : x6_1 < (l1.length : Int)
      · rw [if_pos c5] at H
        have c5b0 : decide (x6_1 < (l1.length : Int)) = true := decide_eq_true c5
        clear c5
        by_cases c6 : 0 ≤ x6_1
        · rw [if_pos c6] at H
          have c6b0 : decide (0 ≤ x6_1) = true := decide_eq_true c6
          clear c6
          by_cases c7 : x5_1.length < 140737488355328
          · rw [if_pos c7] at H
            have LMc7 := Aside0.mk c7
            clear c7
            obtain ⟨y122, hy122⟩ : ∃ y_ : List Int, y_ = (x5_1 ++ [rd l1 x6_1]) := ⟨_, rfl⟩
            replace H : (arrearslaw6_plus.l0 k1 l1 y122 (wrap64 (x6_1 + 1))) = some r := by first | (rw [hy122]; with_reducible exact H) | (have H2_ := (Option.bind_some _ _).symm.trans H; rw [hy122]; with_reducible exact H2_) | (have H2_ := (Option.bind_some _ _).symm.trans H; with_reducible exact H2_) | with_reducible exact H | (rw [hy122]; exact H) | exact H
            have Ny122 := Aside0.mk hy122
            clear hy122
            have H' := Aside0.mk H
            clear H
            have p121 : 0 ≤ (x6_1 : Int) := of_decide_eq_true (by first | (with_reducible assumption) | assumption)
            have q121 : x6_1 < (l1.length : Int) := of_decide_eq_true (by first | (with_reducible assumption) | assumption)
            obtain ⟨ad121, e121, hx121_0⟩ := Kd.at_int HR1.out x6_1 p121 q121
            cases e121
            replace hx121_0 := (HB.out.cell (World.block_lt_of_cell? w _ hx121_0)).trans hx121_0
            replace p121 := eq_true p121
            replace q121 := eq_true q121
            go_wp2_with (first | ((with_reducible refine gate_builtin (b := .append) (xs := #[.tmp 15, .tmp 20]) rfl ?_); at_builtin; refine Kd.R_append (Kd.int .u8) (w0 := w) w.heap.size rfl (.tmp 15) (.tmp 20) 23 5 (.int .u8 0) 1 rfl Tryd.underlying23 info5 rfl (by decide) (by omega) u5 x5_1 (rd l1 x6_1) [.int .u8 (rd l1 x6_1)] (fun _ => True) (fun _ => False) rfl rfl ?aP (fun _ hk => hk.elim) ?aF ?aO ?aB ?aS ?aL ?_; (case aP => exact rfl); (case aB => exact (by repeat (first | (with_reducible first | exact HB.out | apply below_alloc | apply pw_below_drewN | apply below_drew1) | exact HB.out))); (case aF => exact (fun _ _ => trivial)); (case aO => exact (by (with_reducible repeat (first | apply Kd.R_alloc | apply Kd.R_drewN | apply Kd.R_drew)); exact HO_5.out)); (case aS => exact (below_size (by repeat (first | (with_reducible first | exact HB.out | apply below_alloc | apply pw_below_drewN | apply below_drew1) | exact HB.out)))); (case aL => have := LMc7.out; omega); intro v123 w8 ho hb hg hat; rw [← Ny122.out] at ho; have n0_ := Aside0.mk (hb); have n1_ := Aside0.mk (ho); clear HB; clear HO_5; have HB := n0_; have HO124 := n1_; clear n0_ n1_; clear ho hb hg hat))
            go_roundg k1
            case measure => have := HK1.out; omega
            case rel => exact ⟨(y122), (wrap64 (x6_1 + 1)), (by first | rfl | (simp; done) | (simp [*]; done)), H', ⟨by have := HK1.out; omega⟩, ⟨by (with_reducible repeat (first | apply Kd.R_alloc | apply Kd.R_drewN | apply Kd.R_drew)); exact HO124.out⟩, ⟨by repeat (first | (with_reducible first | exact HB.out | apply below_alloc | apply pw_below_drewN | apply below_drew1) | exact HB.out)⟩⟩
          · rw [if_neg c7] at H
            exact absurd H (by simp)
        · rw [if_neg c6] at H
          exact absurd H (by simp)
      · rw [if_neg c5] at H
        have c5b0 : decide (x6_1 < (l1.length : Int)) = false := decide_eq_false c5
        clear c5
        obtain rfl := Option.some.inj H
        go_wp2
        go_ret
        exact ⟨_, by first | rfl | (simp [errW_none, errW_some] <;> rfl) | (simp [*, errW_none, errW_some] <;> rfl), by (with_reducible repeat (first | apply Kd.R_alloc | apply Kd.R_drewN | apply Kd.R_drew)); exact HO_5.out, by repeat (first | (with_reducible first | exact HB.out | apply below_alloc | apply pw_below_drewN | apply below_drew1) | exact HB.out)⟩

end Go.Proofs.YtgfjmpnlkjocaaaDoor.P
