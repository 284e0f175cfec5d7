-- Written by stubprint.py (wip/) of this work, over the kit's print.py; parts by hand.
import Derived.Test.YtncfoaglmggdhaaRx0
import Derived.Test.YtncfoaglmggdhaaRx2
namespace Go.Proofs.Ytncfoaglmggdhaa.R
open Go.RowKit Go.Proofs.YtncfoaglmggdhaaW.PrintWords Go.Proofs.YtncfoaglmggdhaaW.PrintLast Go.Proofs.YtncfoaglmggdhaaW.PrintMore
attribute [local go_sem] max2_int min2_int max_two min_two max_three min_three max_four min_four   -- for this text's walks alone
set_option linter.unusedVariables false
set_option linter.unusedSimpArgs false

/-! ### aging_sound: function 33 (by hand) -/
def aging_sound.sndGo (last : Int) : List S31 → Bool
  | [] => true
  | r :: rs => decide (last < r.f0 ∧ r.f0 ≤ 3652059 ∧ 0 ≤ r.f1 ∧ 0 ≤ r.f2) && aging_sound.sndGo r.f0 rs
def aging_sound.amts (l : List S31) : List Int := l.flatMap fun r => [r.f1, r.f2]
def aging_sound.f (l0 : List S31) : Option Bool :=
  if (∀ r ∈ l0, r.f1 ≤ 9223372036854775807 ∧ r.f2 ≤ 9223372036854775807) ∧ l0.length ≤ 1000000000 then
    some (aging_sound.sndGo 0 l0 && decide ((aging_sound.amts l0).sum ≤ 9223372036854775807)) else none

theorem aging_sound.make_cap (P : Program) (t e : TypeId) (k : IntKind) (bytes : Nat) (ht : P.underlying t = some (.slice e)) (hinfo : (P.info? e).map (fun i => (i.zero, i.size, i.bytes)) = some (some (.int k 0), 1, bytes))
    (m : Int) (h0 : 0 ≤ m) (hn : (bytes : Int) * m ≤ 281474976710656) (h63 : m ≤ 9223372036854775807) :
    ∀ W : World, (Instr.makeSlice t (.int .i64 0) (.int .i64 m)).run P W = .ok (.slice (some ⟨W.heap.size, 0, none⟩) 0 m.toNat) (W.alloc (.cells (madeCells #[.int k 0] m.toNat) e)) := by
  intro W
  obtain ⟨i0, hi, hzz⟩ := Option.map_eq_some_iff.1 hinfo
  simp only [Prod.mk.injEq] at hzz
  obtain ⟨hz0, hz1, hz2⟩ := hzz
  rw [run_make W t e i0 _ ht hi hz0 .i64 .i64 0 m (by omega) h0 (by rw [hz2]; exact hn) h63, hz1, Nat.mul_one]
  rfl
theorem aging_sound.own_made0 (W : World) (base : Nat) (e : TypeId) (k : IntKind) (m : Nat) (hb : base ≤ W.heap.size) (hm : m ≤ 9223372036854775807) :
    (W.alloc (.cells (madeCells #[.int k 0] m) e)).ownsRow base e 1 (.slice (some ⟨W.heap.size, 0, none⟩) 0 m) ([] : List Int).length (nums k []) :=
  World.ownsRow_made W _ m hb hm (by simp [madeCells])

theorem aging_sound.info2' : (Try.prog.info? 2).map (fun i => (i.zero, i.size, i.bytes)) = some (some (.int .i64 0), 1, 8) := by kernel_rfl
theorem aging_sound.idx2 (x y : Int) (j : Nat) (hj : j < 2) : ∀ W : World, (Instr.index 59 (.agg #[.int .i64 x, .int .i64 y]) (.int .i64 (j : Int))).run Try.prog W = .ok (.int .i64 (if j = 0 then x else y)) W := by
  intro W
  have : j = 0 ∨ j = 1 := by omega
  rcases this with rfl | rfl
  · exact (by kernel_rfl : (Instr.index 59 (.agg #[.int .i64 x, .int .i64 y]) (.int .i64 0)).run Try.prog W = .ok (.int .i64 x) W)
  · exact (by kernel_rfl : (Instr.index 59 (.agg #[.int .i64 x, .int .i64 y]) (.int .i64 1)).run Try.prog W = .ok (.int .i64 y) W)


def aging_sound.lastOf (l : List S31) (k : Nat) : Int := if k = 0 then 0 else (rd_T31 l ((k : Int) - 1)).f0
def aging_sound.rowOk (last : Int) (r : S31) : Prop := last < r.f0 ∧ r.f0 ≤ 3652059 ∧ 0 ≤ r.f1 ∧ 0 ≤ r.f2
instance (last : Int) (r : S31) : Decidable (aging_sound.rowOk last r) := by unfold aging_sound.rowOk; infer_instance
theorem aging_sound.rd_T31_cons (a : S31) (l : List S31) (k : Nat) : rd_T31 (a :: l) ((k + 1 : Nat) : Int) = rd_T31 l (k : Int) := by
  unfold rd_T31; simp
theorem aging_sound.sndGo_take : ∀ (l : List S31) (last : Int) (k : Nat), k < l.length → aging_sound.sndGo last (l.take (k + 1)) = (aging_sound.sndGo last (l.take k) && decide (aging_sound.rowOk (if k = 0 then last else (rd_T31 l ((k : Int) - 1)).f0) (rd_T31 l k)))
  | [], _, _, h => by simp at h
  | a :: l, last, 0, h => by simp [aging_sound.sndGo, rd_T31, aging_sound.rowOk]
  | a :: l, last, k + 1, h => by
    have ih := aging_sound.sndGo_take l a.f0 k (by simpa using h)
    rw [List.take_succ_cons, aging_sound.sndGo, ih, List.take_succ_cons, aging_sound.sndGo, aging_sound.rd_T31_cons, Bool.and_assoc]
    by_cases hk : k = 0
    · subst hk; simp [rd_T31]
    · have : (((k + 1 : Nat) : Int) - 1) = ((k - 1 + 1 : Nat) : Int) := by omega
      rw [if_neg hk, if_neg (by omega), this, aging_sound.rd_T31_cons]
      have : ((k : Int) - 1) = ((k - 1 : Nat) : Int) := by omega
      rw [this]
theorem aging_sound.sndGo_mono (l : List S31) : ∀ (last : Int) (k : Nat), aging_sound.sndGo last (l.take k) = false → aging_sound.sndGo last l = false := by
  induction l with
  | nil => intro last k h; simp [aging_sound.sndGo] at h
  | cons a l ih =>
    intro last k h
    cases k with
    | zero => simp [aging_sound.sndGo] at h
    | succ k =>
      rw [List.take_succ_cons, aging_sound.sndGo] at h
      rw [aging_sound.sndGo]
      rcases Bool.and_eq_false_iff.1 h with h | h
      · rw [h]; rfl
      · rw [ih _ _ h]; simp
theorem aging_sound.amts_take (l : List S31) (k : Nat) (h : k < l.length) : aging_sound.amts (l.take (k + 1)) = aging_sound.amts (l.take k) ++ [(rd_T31 l k).f1, (rd_T31 l k).f2] := by
  unfold aging_sound.amts
  rw [List.take_succ_eq_append_getElem h, List.flatMap_append]
  simp [rd_T31, h]
theorem aging_sound.amts_len (l : List S31) : (aging_sound.amts l).length = 2 * l.length := by
  unfold aging_sound.amts
  induction l with
  | nil => rfl
  | cons a l ih => simp [List.flatMap_cons] at ih ⊢; omega
theorem aging_sound.sound_no {l0 : List S31} {r : Bool} (h : aging_sound.f l0 = some r) (k : Nat) (hk : k < l0.length) (hn : ¬ aging_sound.rowOk (aging_sound.lastOf l0 k) (rd_T31 l0 k)) : r = false := by
  unfold aging_sound.f at h
  split at h
  · have e := Option.some.inj h
    have : aging_sound.sndGo 0 l0 = false := aging_sound.sndGo_mono l0 0 (k + 1) (by rw [aging_sound.sndGo_take l0 0 k hk]; unfold aging_sound.lastOf at hn; simp [hn])
    rw [this] at e
    simpa using e.symm
  · cases h
theorem aging_sound.sound_step {l0 : List S31} (k : Nat) (hk : k < l0.length) (hs : aging_sound.sndGo 0 (l0.take k) = true) (hn : aging_sound.rowOk (aging_sound.lastOf l0 k) (rd_T31 l0 k)) : aging_sound.sndGo 0 (l0.take (k + 1)) = true := by
  rw [aging_sound.sndGo_take l0 0 k hk, hs]; unfold aging_sound.lastOf at hn; simp [hn]
theorem aging_sound.sound_nonneg : ∀ (l : List S31) (last : Int), aging_sound.sndGo last l = true → ∀ x ∈ aging_sound.amts l, 0 ≤ x
  | [], _, _, x, hx => by simp [aging_sound.amts] at hx
  | a :: l, last, h, x, hx => by
    rw [aging_sound.sndGo, Bool.and_eq_true, decide_eq_true_eq] at h
    unfold aging_sound.amts at hx
    rw [List.flatMap_cons, List.mem_append] at hx
    rcases hx with hx | hx
    · simp at hx; rcases hx with rfl | rfl <;> omega
    · exact aging_sound.sound_nonneg l a.f0 h.2 x hx
theorem aging_sound.sum_nonneg_of : ∀ (l : List Int), (∀ x ∈ l, 0 ≤ x) → 0 ≤ l.sum
  | [], _ => by simp
  | a :: l, h => by
    have := aging_sound.sum_nonneg_of l (fun x hx => h x (by simp [hx]))
    have := h a (by simp)
    simp; omega
theorem aging_sound.sound_end {l0 : List S31} {r : Bool} (h : aging_sound.f l0 = some r) (hs : aging_sound.sndGo 0 l0 = true) : ∃ q, money_Sum_int64.f (aging_sound.amts l0) = some (q, r) := by
  unfold aging_sound.f at h
  split at h
  · rename_i g
    have e := Option.some.inj h
    rw [hs, Bool.true_and] at e
    have hnn := aging_sound.sound_nonneg l0 0 hs
    have hsum := aging_sound.sum_nonneg_of _ hnn
    have hall : ∀ x ∈ aging_sound.amts l0, -9223372036854775808 ≤ x ∧ x ≤ 9223372036854775807 := by
      intro x hx
      refine ⟨by have := hnn x hx; omega, ?_⟩
      unfold aging_sound.amts at hx
      rw [List.mem_flatMap] at hx
      obtain ⟨a, ha, hx⟩ := hx
      have := g.1 a ha
      simp at hx
      rcases hx with rfl | rfl <;> omega
    unfold money_Sum_int64.f
    rw [if_pos hall]
    by_cases hb : (aging_sound.amts l0).sum ≤ 9223372036854775807
    · refine ⟨(aging_sound.amts l0).sum, ?_⟩
      rw [if_pos ⟨by omega, hb⟩, ← e, decide_eq_true hb]
    · refine ⟨0, ?_⟩
      rw [if_neg (fun h => hb h.2), ← e, decide_eq_false hb]
  · cases h

set_option maxRecDepth 100000 in
set_option maxHeartbeats 2000000 in
theorem aging_sound.calls (A0 : Option Addr) (c0 : Nat) (l0 : List S31) (r : Bool) (w : World) (hr0 : Kd.C k31 w A0 l0.length l0) (hc0 : l0.length ≤ c0) (h : aging_sound.f l0 = some r) :
    Calls Try.prog 33 #[.slice A0 l0.length c0] w fun e w' => e = .returned (.bool r) ∧ Below w.heap.size w w' := by
  have HR := Aside0.mk hr0
  have HH := Aside0.mk h
  have hlen : l0.length ≤ 1000000000 := by
    unfold aging_sound.f at h
    split at h
    · rename_i g; exact g.2
    · cases h
  clear hr0 h
  have hmul : IntKind.i64.wrap (2 * (l0.length : Int)) = 2 * (l0.length : Int) := IntWalk.i64_in _ (by omega)
  have hmk := aging_sound.make_cap Try.prog 57 2 .i64 8 Try.underlying57 aging_sound.info2' (2 * (l0.length : Int)) (by omega) (by omega) (by omega)
  have hui := Try.underlying31
  have HO := Aside0.mk (aging_sound.own_made0 w w.heap.size 2 .i64 (2 * (l0.length : Int)).toNat (Nat.le_refl _) (by omega))
  go_enter Try.func33, Try.ntmps33
  go_wp2
  go_step3
  go_wp2
  go_step3
  go_wp2
  clear hmul hmk
  go_loopw [3, 4, 5, 16] (fun g la v i wr => ∃ (k : Nat) (L : Int), k ≤ l0.length ∧ i = .int .i64 k ∧ la = .int .i64 L ∧ Aside0 (L = aging_sound.lastOf l0 k) ∧ g = .bool true ∧ Aside0 (aging_sound.sndGo 0 (l0.take k) = true) ∧ Aside0 (wr.ownsRow w.heap.size 2 1 v (aging_sound.amts (l0.take k)).length (nums .i64 (aging_sound.amts (l0.take k)))) ∧ Aside0 (Below w.heap.size w wr)) (fun _ _ _ i _ => l0.length - (intOf i).toNat)
  case atStart => exact ⟨0, 0, by omega, rfl, rfl, ⟨rfl⟩, rfl, ⟨rfl⟩, ⟨HO.out⟩, ⟨below_alloc (Below.refl _ _) _⟩⟩
  case round =>
    obtain ⟨k, L, hk, rfl, rfl, HL, rfl, HS, HV, HB⟩ := hrel
    by_cases hlt : k < l0.length
    · obtain ⟨ad, e, hc0, hc1, hc2, hc3⟩ := at_T31 HR.out k (by omega) (by omega)
      cases e
      rw [Int.toNat_natCast] at hc0 hc1 hc2 hc3
      replace hc0 := pw_cell_below HB.out hc0
      replace hc1 := pw_cell_below HB.out hc1
      replace hc2 := pw_cell_below HB.out hc2
      replace hc3 := pw_cell_below HB.out hc3
      obtain ⟨x, ex⟩ : ∃ x, x = rd_T31 l0 (k : Int) := ⟨_, rfl⟩
      rw [← ex] at hc0 hc1 hc2 hc3
      have HX := Aside0.mk ex
      clear ex
      have hinr : r = false → (Ending.returned (.bool false) = Ending.returned (.bool r)) := fun h => by rw [h]
      by_cases g1 : x.f0 ≤ L
      · have hr : r = false := aging_sound.sound_no HH.out k hlt (by unfold aging_sound.rowOk; rw [← HX.out, ← HL.out]; omega)
        have hd1 : decide (x.f0 ≤ L) = true := decide_eq_true g1
        have HRF := Aside0.mk hr
        clear hr g1
        go_wp2
        rw [Exit.noGoto_ret]
        go_ret
        exact ⟨hinr HRF.out, by repeat (first | exact HB.out | apply below_alloc)⟩
      · have hd1 : decide (x.f0 ≤ L) = false := decide_eq_false g1
        by_cases g2 : 3652059 < x.f0
        · have hr : r = false := aging_sound.sound_no HH.out k hlt (by unfold aging_sound.rowOk; rw [← HX.out, ← HL.out]; omega)
          have hd2 : decide (3652059 < x.f0) = true := decide_eq_true g2
          have HRF := Aside0.mk hr
          clear hr g1 g2
          go_wp2
          rw [Exit.noGoto_ret]
          go_ret
          exact ⟨hinr HRF.out, by repeat (first | exact HB.out | apply below_alloc)⟩
        · have hd2 : decide (3652059 < x.f0) = false := decide_eq_false g2
          have G12 := Aside0.mk (And.intro g1 g2)
          clear g1 g2
          go_wp2
          go_loopw [3, 5, 36] (fun g v j wi => ∃ (n : Nat), n ≤ 2 ∧ j = .int .i64 n ∧ g = .bool true ∧ Aside0 ((0 < n → 0 ≤ x.f1) ∧ (1 < n → 0 ≤ x.f2)) ∧ Aside0 (wi.ownsRow w.heap.size 2 1 v (aging_sound.amts (l0.take k) ++ [x.f1, x.f2].take n).length (nums .i64 (aging_sound.amts (l0.take k) ++ [x.f1, x.f2].take n))) ∧ Aside0 (Below w.heap.size w wi)) (fun _ _ j _ => 2 - (intOf j).toNat)
          case atStart => exact ⟨0, by omega, rfl, rfl, ⟨by omega, by omega⟩, ⟨by simpa using (HV.out.alloc _)⟩, ⟨below_alloc HB.out _⟩⟩
          case round =>
            obtain ⟨n, hn, rfl, rfl, HP, HVi, HBi⟩ := hrel
            by_cases hn2 : n < 2
            · have hix := aging_sound.idx2 x.f1 x.f2 n hn2
              obtain ⟨y, hy⟩ : ∃ y, y = (if n = 0 then x.f1 else x.f2) := ⟨_, rfl⟩
              rw [← hy] at hix
              have HY := Aside0.mk hy
              clear hy
              by_cases hneg : y < 0
              · have hr : r = false := aging_sound.sound_no HH.out k hlt (by
                  unfold aging_sound.rowOk; rw [← HX.out, ← HL.out]
                  have := HY.out
                  split at this <;> omega)
                have HRF := Aside0.mk hr
                clear hr
                go_wp2
                rw [Exit.noGoto_ret]
                go_ret
                exact ⟨hinr HRF.out, HBi.out⟩
              · have HLim := Aside0.mk (show ((aging_sound.amts (l0.take k) ++ [x.f1, x.f2].take n).length + 1) * 8 ≤ 140737488355328 by
                  have h1 := aging_sound.amts_len (l0.take k)
                  have h2 : ([x.f1, x.f2].take n).length ≤ 2 := by simp; omega
                  rw [List.length_take] at h1
                  rw [List.length_append]; omega)
                go_wp2_with (at_builtin; (refine print_append_num (w0 := w) w.heap.size rfl (.tmp 41) (.tmp 43) 57 2 .i64 8 rfl Try.underlying57 aging_sound.info2' (by omega) u5 (aging_sound.amts (l0.take k) ++ [x.f1, x.f2].take n) y rfl rfl HVi.out HBi.out HBi.out.size ?hl ?_); (case hl => exact HLim.out); intro v1 w1 ho hb hg hat; clear hg hat; have HO1 := Aside0.mk ho; have HB1 := Aside0.mk hb; clear ho hb)
                go_roundw
                case rel => exact ⟨n + 1, by omega, by go_num, rfl, ⟨by
                  have h1 := HP.out; have h2 := HY.out
                  have : n = 0 ∨ n = 1 := by omega
                  rcases this with rfl | rfl
                  · simp at h2; exact ⟨fun _ => by omega, by omega⟩
                  · simp at h2; exact ⟨fun _ => h1.1 (by omega), fun _ => by omega⟩⟩, ⟨by
                  have e : [x.f1, x.f2].take (n + 1) = [x.f1, x.f2].take n ++ [y] := by
                    have h2 := HY.out
                    have : n = 0 ∨ n = 1 := by omega
                    rcases this with rfl | rfl <;> simp at h2 <;> simp [h2]
                  rw [e, ← List.append_assoc]; exact HO1.out⟩, HB1⟩
                case measure => simp [intOf]; omega
            · have hn3 : n = 2 := by omega
              have HRow := Aside0.mk (show aging_sound.rowOk (aging_sound.lastOf l0 k) (rd_T31 l0 k) by
                have h1 := HP.out
                have h2 := G12.out
                rw [← HX.out, ← HL.out]
                exact ⟨by omega, by omega, h1.1 (by omega), h1.2 (by omega)⟩)
              have HV2 := Aside0.mk (show wr.ownsRow w.heap.size 2 1 u5 (aging_sound.amts (l0.take (k + 1))).length (nums .i64 (aging_sound.amts (l0.take (k + 1)))) by
                have h := HVi.out
                rw [hn3] at h
                rw [aging_sound.amts_take l0 k hlt, ← HX.out]
                exact h)
              clear hn3
              go_wp2
              go_roundw
              case rel => exact ⟨k + 1, x.f0, by omega, by go_num, rfl, ⟨by unfold aging_sound.lastOf; rw [if_neg (by omega), HX.out]; congr 2; omega⟩, rfl, ⟨aging_sound.sound_step k hlt HS.out HRow.out⟩, HV2, HBi⟩
              case measure => simp [intOf]; omega
    · have hk2 : k = l0.length := by omega
      have hS := HS.out
      have hV := HV.out
      rw [hk2, List.take_length] at hS hV
      obtain ⟨q, hq⟩ := aging_sound.sound_end HH.out hS
      obtain ⟨A, cc, rfl, hrd⟩ := own_reads hV
      have hcc := own_le hV
      have HQ := Aside0.mk hq
      have HRd := Aside0.mk (Kd.C_of_reads (d := (0 : Int)) (h1 := fun _ => rfl) hrd)
      have HCC := Aside0.mk hcc
      clear hk2 hS hV hq hrd hcc
      go_wp2_with (go_at_call 47; refine (money_Sum_int64.calls A cc (aging_sound.amts l0) q r _ ?c1 ?c2 HQ.out).mono ?_; (case c1 => exact HRd.out); (case c2 => exact HCC.out); rintro e w1 ⟨rfl, ⟨m, rfl⟩⟩)
      rw [Exit.noGoto_ret]
      go_ret
      exact ⟨rfl, pw_below_drewN HB.out m⟩

end Go.Proofs.Ytncfoaglmggdhaa.R
