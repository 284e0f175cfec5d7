-- Written by stubprint.py (wip/) of this work, over the kit's print.py; parts by hand.
import Derived.Test.YtgfjmpnlkjocaaaDoorJx0
import Derived.Test.YtgfjmpnlkjocaaaDoorJx1
import Derived.Test.YtgfjmpnlkjocaaaDoorJx2
namespace Go.Proofs.YtgfjmpnlkjocaaaDoor.J
open Go.RowKit Go.Proofs.YtgfjmpnlkjocaaaDoorW.PrintWords Go.Proofs.YtgfjmpnlkjocaaaDoorW.PrintLast Go.Proofs.YtgfjmpnlkjocaaaDoorW.PrintMore
attribute [local go_sem] max2_int min2_int max_two min_two max_three min_three max_four min_four   -- for this text's walks alone
set_option linter.unusedVariables false
set_option linter.unusedSimpArgs false

/-! ### frame_Decode: function 26 (by hand) -/
/-- make with nothing in it and a capacity that is a 32-bit number. -/
theorem frame_Decode.info8 : (Tryd.prog.info? 5).map (fun i => (i.zero, i.size, i.bytes)) = some (some (.int .u8 0), 1, 1) := by kernel_rfl
theorem frame_Decode.make32 (m : Int) (h0 : 0 ≤ m) (hn : m ≤ 4194304) :
    ∀ W : World, (Instr.makeSlice 23 (.int .i64 0) (.int .u32 m)).run Tryd.prog W = .ok (.slice (some ⟨W.heap.size, 0, none⟩) 0 m.toNat) (W.alloc (.cells (madeCells #[.int .u8 0] m.toNat) 5)) := by
  intro W
  obtain ⟨i0, hi, hzz⟩ := Option.map_eq_some_iff.1 frame_Decode.info8
  simp only [Prod.mk.injEq] at hzz
  obtain ⟨hz0, hz1, hz2⟩ := hzz
  rw [run_make W 23 5 i0 _ Tryd.underlying23 hi hz0 .i64 .u32 0 m (by omega) h0 (by rw [hz2]; omega) (by omega), hz1, Nat.mul_one]
  rfl
theorem frame_Decode.gen_world {P : Program} {c : Code} {Q : Exit → Act → World → Prop} {a : Act} {W : World} (F : World → Prop) (h0 : F W) (h : ∀ W2, F W2 → c.wp P Q a W2) : c.wp P Q a W := h W h0
/-- What stands at a place of a file: the payload, the tail, whether it is whole, the place behind. -/
def frame_Decode.nx (l : List Int) (a : Nat) : Option (List Int × Int × Bool × Int) :=
  if (l.drop a).length = 0 then some ([], 0, false, a)
  else if (l.drop a).length < 4 then some ([], 1, false, a)
  else (frame_word.f (l.drop a)).bind fun n =>
    if 4194304 < n then some ([], 2, false, a)
    else if n < 0 then none
    else if ((l.drop a).length : Int) < 4 + n + 4 then some ([], 1, false, a)
    else (frame_Sum.f ((l.drop a).take (4 + n).toNat)).bind fun s =>
      (frame_word.f ((l.drop a).drop (4 + n).toNat)).bind fun z =>
        if s = z then some (((l.drop a).take (4 + n).toNat).drop 4, 0, true, a + (4 + n + 4)) else some ([], 3, false, a)
def frame_Decode.f (l0 : List Int) (a1 : Int) : Option (List Int × Int × Int) :=
  if a1 < 0 ∨ (l0.length : Int) < a1 then some ([], a1, 1) else (frame_Decode.nx l0 a1.toNat).bind fun q => some (q.1, q.2.2.2, q.2.1)
set_option maxRecDepth 100000 in
set_option maxHeartbeats 4000000 in
theorem frame_Decode.next (g : Nat) (A0 : Option Addr) (c0 : Nat) (l0 : List Int) (a : Nat) (r1 : List Int) (r2 : Int) (r3 : Bool) (r4 : Int) (w : World)
    (hcur : w.heap[g]? = some (.cells #[.slice A0 l0.length c0, .int .i64 (a : Int)] 58 (0, 0))) (hr0 : Kd.C (Kd.int .u8) w A0 l0.length l0) (hc0 : l0.length ≤ c0) (ha : a ≤ l0.length) (hA : ∀ ad, A0 = some ad → 0 < l0.length → ad.block ≠ g) (hL : Laid w) (h : frame_Decode.nx l0 a = some (r1, r2, r3, r4)) :
    Calls Tryd.prog 41 #[.pointer (some ⟨g, 0, none⟩)] w fun e w' => ∃ v0_ : Value, e = .returned (.tuple #[v0_, .int .i64 r2, .bool r3]) ∧ Kd.R (Kd.int .u8) 5 w' w.heap.size (fun _ => True) v0_ r1 ∧
      w'.heap[g]? = some (.cells #[.slice A0 l0.length c0, .int .i64 r4] 58 (0, 0)) ∧ KeepBut w w' g none ∧ (∀ B, B ≤ g → Below B w w') := by
  have HL := Aside0.mk hL
  have hmax := Kd.C_max hr0
  have e0 : w.cell? ⟨g, 0, none⟩ = some (.slice A0 l0.length c0) := by simp [World.cell?, hcur]
  have e1 : w.cell? ⟨g, 1, none⟩ = some (.int .i64 (a : Int)) := by simp [World.cell?, hcur]
  have e2 : w.frozen? ⟨g, 1, none⟩ = false := by simp [World.frozen?, hcur]
  have hg := (Array.getElem?_eq_some_iff.1 hcur).1
  have HCUR := Aside0.mk hcur
  have HNE := Aside0.mk hA
  have HR0 := Aside0.mk hr0
  have HG := Aside0.mk hg
  obtain ⟨i0, hi, _, hsz, _⟩ := info_parts frame_Decode.info8
  obtain ⟨A1, hcut, hA1, hC1⟩ := print_drop_of (P := Tryd.prog) (Value.int .u8) 0 23 5 .i64 Tryd.underlying23 hi hsz A0 c0 l0 (a : Int) (by omega) (by omega) hc0
  rw [Int.toNat_natCast] at hcut hA1 hC1
  have HR1 := Aside0.mk (Kd.C_of_reads (h1 := fun _ => rfl) (hA1 _ (Kd.reads_of_C hr0)))
  have HA1 := Aside0.mk hA1
  have HC1 := Aside0.mk hC1
  clear hA1 hC1
  unfold frame_Decode.nx at h
  have hll : (l0.drop a).length = l0.length - a := List.length_drop
  generalize l0.drop a = left at *
  have HLL := Aside0.mk hll
  have HMX := Aside0.mk hmax
  have HA := Aside0.mk ha
  have hc0a : left.length ≤ c0 - a := HC1.out
  have HCA := Aside0.mk hc0a
  generalize hca : c0 - a = c1 at *
  clear hr0 hcur hA hg hca hll hmax hL hc0a
  by_cases c2 : left.length = 0
  · rw [if_pos c2] at h
    have d1 : ((left.length : Int) == 0) = true := by rw [c2]; rfl
    clear ha
    simp only [Option.some.injEq, Prod.mk.injEq] at h
    obtain ⟨rfl, rfl, rfl, rfl⟩ := h
    go_enter Tryd.func41, Tryd.ntmps41
    go_wp2
    repeat (go_quiet (fail); try go_wp2)
    go_ret3
    refine ⟨_, rfl, Kd.R_nil _ _ _ _ _, ?_, ?_, ?_⟩
    · first | exact HCUR.out | exact blk_drewN HCUR.out _
    · refine KeepBut.of_below ?_ _ _
      repeat (first | exact Below.refl _ _ | apply below_drew1 | apply pw_below_drewN)
    · intro B hB
      repeat (first | exact Below.refl _ _ | apply below_drew1 | apply pw_below_drewN)
  rw [if_neg c2] at h
  have d1 : ((left.length : Int) == 0) = false := beq_eq_false_iff_ne.mpr (by omega)
  by_cases c4 : left.length < 4
  · rw [if_pos c4] at h
    have d2 : decide ((left.length : Int) < 4) = true := decide_eq_true (by omega)
    clear ha
    simp only [Option.some.injEq, Prod.mk.injEq] at h
    obtain ⟨rfl, rfl, rfl, rfl⟩ := h
    go_enter Tryd.func41, Tryd.ntmps41
    go_wp2
    repeat (go_quiet (fail); try go_wp2)
    go_ret3
    refine ⟨_, rfl, Kd.R_nil _ _ _ _ _, ?_, ?_, ?_⟩
    · first | exact HCUR.out | exact blk_drewN HCUR.out _
    · refine KeepBut.of_below ?_ _ _
      repeat (first | exact Below.refl _ _ | apply below_drew1 | apply pw_below_drewN)
    · intro B hB
      repeat (first | exact Below.refl _ _ | apply below_drew1 | apply pw_below_drewN)
  rw [if_neg c4] at h
  have d2 : decide ((left.length : Int) < 4) = false := decide_eq_false (by omega)
  obtain ⟨n, en, h⟩ := Option.bind_eq_some_iff.mp h
  have EN := Aside0.mk en
  clear en
  by_cases c5 : 4194304 < n
  · rw [if_pos c5] at h
    have d3 : decide (4194304 < n) = true := decide_eq_true c5
    clear ha
    simp only [Option.some.injEq, Prod.mk.injEq] at h
    obtain ⟨rfl, rfl, rfl, rfl⟩ := h
    go_enter Tryd.func41, Tryd.ntmps41
    go_wp2_with (first | (go_at_call 48; (with_reducible refine (frame_word.calls _ _ left n _ ?side1 ?side2 EN.out).mono ?_); (case side1 => repeat (first | exact HR1.out | (with_reducible refine Kd.C_alloc ?_ _) | (with_reducible refine Kd.C_drewN ?_ _) | (with_reducible refine Kd.C_drew ?_))); (case side2 => exact HC1.out); rintro e w' ⟨rfl, ⟨nd, rfl⟩⟩; (try first | exact ⟨rfl, _, World.drewN_drewN _ _ _⟩ | exact ⟨rfl, _, Eq.trans (World.drewN_drewN _ _ _) (congrArg (World.drewN _) (Nat.add_assoc _ _ _))⟩)))
    repeat (go_quiet (first | (go_at_call 48; (with_reducible refine (frame_word.calls _ _ left n _ ?side1 ?side2 EN.out).mono ?_); (case side1 => repeat (first | exact HR1.out | (with_reducible refine Kd.C_alloc ?_ _) | (with_reducible refine Kd.C_drewN ?_ _) | (with_reducible refine Kd.C_drew ?_))); (case side2 => exact HC1.out); rintro e w' ⟨rfl, ⟨nd, rfl⟩⟩; (try first | exact ⟨rfl, _, World.drewN_drewN _ _ _⟩ | exact ⟨rfl, _, Eq.trans (World.drewN_drewN _ _ _) (congrArg (World.drewN _) (Nat.add_assoc _ _ _))⟩))); try go_wp2_with (first | (go_at_call 48; (with_reducible refine (frame_word.calls _ _ left n _ ?side1 ?side2 EN.out).mono ?_); (case side1 => repeat (first | exact HR1.out | (with_reducible refine Kd.C_alloc ?_ _) | (with_reducible refine Kd.C_drewN ?_ _) | (with_reducible refine Kd.C_drew ?_))); (case side2 => exact HC1.out); rintro e w' ⟨rfl, ⟨nd, rfl⟩⟩; (try first | exact ⟨rfl, _, World.drewN_drewN _ _ _⟩ | exact ⟨rfl, _, Eq.trans (World.drewN_drewN _ _ _) (congrArg (World.drewN _) (Nat.add_assoc _ _ _))⟩))))
    go_ret3
    refine ⟨_, rfl, Kd.R_nil _ _ _ _ _, ?_, ?_, ?_⟩
    · first | exact HCUR.out | exact blk_drewN HCUR.out _
    · refine KeepBut.of_below ?_ _ _
      repeat (first | exact Below.refl _ _ | apply below_drew1 | apply pw_below_drewN)
    · intro B hB
      repeat (first | exact Below.refl _ _ | apply below_drew1 | apply pw_below_drewN)
  rw [if_neg c5] at h
  have d3 : decide (4194304 < n) = false := decide_eq_false c5
  by_cases c6 : n < 0
  · rw [if_pos c6] at h; cases h
  rw [if_neg c6] at h
  have h0 : IntKind.i64.wrap n = n := IntWalk.i64_in _ (by omega)
  have h0' : wrap64 n = n := by unfold wrap64; omega
  have h1 : IntKind.i64.wrap (4 + n) = 4 + n := IntWalk.i64_in _ (by omega)
  have h2 : IntKind.i64.wrap (4 + n + 4) = 4 + n + 4 := IntWalk.i64_in _ (by omega)
  have h1' : wrap64 (4 + n) = 4 + n := by unfold wrap64; omega
  have h2' : wrap64 (4 + n + 4) = 4 + n + 4 := by unfold wrap64; omega
  by_cases c7 : (left.length : Int) < 4 + n + 4
  · rw [if_pos c7] at h
    have d4 : decide ((left.length : Int) < 4 + n + 4) = true := decide_eq_true c7
    clear ha
    simp only [Option.some.injEq, Prod.mk.injEq] at h
    obtain ⟨rfl, rfl, rfl, rfl⟩ := h
    go_enter Tryd.func41, Tryd.ntmps41
    go_wp2_with (first | (go_at_call 48; (with_reducible refine (frame_word.calls _ _ left n _ ?side1 ?side2 EN.out).mono ?_); (case side1 => repeat (first | exact HR1.out | (with_reducible refine Kd.C_alloc ?_ _) | (with_reducible refine Kd.C_drewN ?_ _) | (with_reducible refine Kd.C_drew ?_))); (case side2 => exact HC1.out); rintro e w' ⟨rfl, ⟨nd, rfl⟩⟩; (try first | exact ⟨rfl, _, World.drewN_drewN _ _ _⟩ | exact ⟨rfl, _, Eq.trans (World.drewN_drewN _ _ _) (congrArg (World.drewN _) (Nat.add_assoc _ _ _))⟩)))
    repeat (go_quiet (first | (go_at_call 48; (with_reducible refine (frame_word.calls _ _ left n _ ?side1 ?side2 EN.out).mono ?_); (case side1 => repeat (first | exact HR1.out | (with_reducible refine Kd.C_alloc ?_ _) | (with_reducible refine Kd.C_drewN ?_ _) | (with_reducible refine Kd.C_drew ?_))); (case side2 => exact HC1.out); rintro e w' ⟨rfl, ⟨nd, rfl⟩⟩; (try first | exact ⟨rfl, _, World.drewN_drewN _ _ _⟩ | exact ⟨rfl, _, Eq.trans (World.drewN_drewN _ _ _) (congrArg (World.drewN _) (Nat.add_assoc _ _ _))⟩))); try go_wp2_with (first | (go_at_call 48; (with_reducible refine (frame_word.calls _ _ left n _ ?side1 ?side2 EN.out).mono ?_); (case side1 => repeat (first | exact HR1.out | (with_reducible refine Kd.C_alloc ?_ _) | (with_reducible refine Kd.C_drewN ?_ _) | (with_reducible refine Kd.C_drew ?_))); (case side2 => exact HC1.out); rintro e w' ⟨rfl, ⟨nd, rfl⟩⟩; (try first | exact ⟨rfl, _, World.drewN_drewN _ _ _⟩ | exact ⟨rfl, _, Eq.trans (World.drewN_drewN _ _ _) (congrArg (World.drewN _) (Nat.add_assoc _ _ _))⟩))))
    go_ret3
    refine ⟨_, rfl, Kd.R_nil _ _ _ _ _, ?_, ?_, ?_⟩
    · first | exact HCUR.out | exact blk_drewN HCUR.out _
    · refine KeepBut.of_below ?_ _ _
      repeat (first | exact Below.refl _ _ | apply below_drew1 | apply pw_below_drewN)
    · intro B hB
      repeat (first | exact Below.refl _ _ | apply below_drew1 | apply pw_below_drewN)
  rw [if_neg c7] at h
  have d4 : decide ((left.length : Int) < 4 + n + 4) = false := decide_eq_false c7
  obtain ⟨s, es, h⟩ := Option.bind_eq_some_iff.mp h
  obtain ⟨z, ez, h⟩ := Option.bind_eq_some_iff.mp h
  obtain ⟨hcutT, hT, hCT⟩ := print_take_of (P := Tryd.prog) (Value.int .u8) 0 23 5 .i64 Tryd.underlying23 hi hsz A1 c1 left (4 + n) (by omega) (by omega) HCA.out
  have hr2 := Kd.C_of_reads (h1 := fun _ => rfl) (hT _ (Kd.reads_of_C HR1.out))
  obtain ⟨A3, hcutD, hD, hCD⟩ := print_drop_of (P := Tryd.prog) (Value.int .u8) 0 23 5 .i64 Tryd.underlying23 hi hsz A1 c1 left (4 + n) (by omega) (by omega) HCA.out
  have hr3 := Kd.C_of_reads (h1 := fun _ => rfl) (hD _ (Kd.reads_of_C HR1.out))
  obtain ⟨y2, hy2⟩ : ∃ y, y = left.take (4 + n).toNat := ⟨_, rfl⟩
  obtain ⟨y3, hy3⟩ : ∃ y, y = left.drop (4 + n).toNat := ⟨_, rfl⟩
  rw [← hy2] at hcutT hr2 hCT es
  rw [← hy3] at hcutD hr3 hCD ez
  have HR2 := Aside0.mk hr2
  have HC2 := Aside0.mk hCT
  have HR3 := Aside0.mk hr3
  have HC3 := Aside0.mk hCD
  have ES := Aside0.mk es
  have EZ := Aside0.mk ez
  generalize hcd : c1 - (4 + n).toNat = c3 at hcutD HC3
  have HY2 := Aside0.mk hy2
  clear hT hCT hD hCD hr2 hr3 es ez hcd hy3 hy2
  by_cases c8 : s = z
  · rw [if_pos c8] at h
    have d5 : (s == z) = true := beq_iff_eq.mpr c8
    have d6 : (s != z) = false := bne_eq_false_iff_eq.mpr c8
    obtain ⟨A4, hcutM, hM, hCM⟩ := print_mid_of (P := Tryd.prog) (Value.int .u8) 0 23 5 .i64 .i64 Tryd.underlying23 hi hsz A1 c1 left 4 (4 + n) (by omega) (by omega) (by omega) HCA.out
    have hmk := frame_Decode.make32 n (by omega) (by omega)
    have hll := HLL.out
    have hmax := HMX.out
    have h3 : IntKind.i64.wrap ((a : Int) + (4 + n + 4)) = a + (4 + n + 4) := IntWalk.i64_in _ (by omega)
    have h3' : wrap64 ((a : Int) + (4 + n + 4)) = a + (4 + n + 4) := by unfold wrap64; omega
    have HN := Aside0.mk (show 0 ≤ n ∧ n ≤ 4194304 ∧ 4 + n + 4 ≤ (left.length : Int) from by omega)
    have HM := Aside0.mk hM
    clear ha c2 c4 c5 c6 c7 c8 hM hCM hll hmax
    simp only [Option.some.injEq, Prod.mk.injEq] at h
    obtain ⟨rfl, rfl, rfl, rfl⟩ := h
    go_enter Tryd.func41, Tryd.ntmps41
    go_wp2_with (first | (go_at_call 14; (with_reducible refine (frame_Sum.calls _ _ y2 s _ ?side1 ?side2 ?side3 ES.out).mono ?_); (case side1 => repeat (first | exact HR2.out | (with_reducible refine Kd.C_alloc ?_ _) | (with_reducible refine Kd.C_drewN ?_ _) | (with_reducible refine Kd.C_drew ?_))); (case side2 => exact HC2.out); (case side3 => first | exact HL.out | exact laid_at HL.out (pw_below_drewN (Below.refl _ _) _) | exact laid_at HL.out (by repeat (first | exact Below.refl _ _ | apply below_drew1 | apply pw_below_drewN))); rintro e w' ⟨rfl, ⟨nd, rfl⟩⟩; (try first | exact ⟨rfl, _, World.drewN_drewN _ _ _⟩ | exact ⟨rfl, _, Eq.trans (World.drewN_drewN _ _ _) (congrArg (World.drewN _) (Nat.add_assoc _ _ _))⟩)) | (go_at_call 48; (with_reducible refine (frame_word.calls _ _ y3 z _ ?side1 ?side2 EZ.out).mono ?_); (case side1 => repeat (first | exact HR3.out | (with_reducible refine Kd.C_alloc ?_ _) | (with_reducible refine Kd.C_drewN ?_ _) | (with_reducible refine Kd.C_drew ?_))); (case side2 => exact HC3.out); rintro e w' ⟨rfl, ⟨nd, rfl⟩⟩; (try first | exact ⟨rfl, _, World.drewN_drewN _ _ _⟩ | exact ⟨rfl, _, Eq.trans (World.drewN_drewN _ _ _) (congrArg (World.drewN _) (Nat.add_assoc _ _ _))⟩)) | (go_at_call 48; (with_reducible refine (frame_word.calls _ _ left n _ ?side1 ?side2 EN.out).mono ?_); (case side1 => repeat (first | exact HR1.out | (with_reducible refine Kd.C_alloc ?_ _) | (with_reducible refine Kd.C_drewN ?_ _) | (with_reducible refine Kd.C_drew ?_))); (case side2 => exact HC1.out); rintro e w' ⟨rfl, ⟨nd, rfl⟩⟩; (try first | exact ⟨rfl, _, World.drewN_drewN _ _ _⟩ | exact ⟨rfl, _, Eq.trans (World.drewN_drewN _ _ _) (congrArg (World.drewN _) (Nat.add_assoc _ _ _))⟩)))
    repeat (go_quiet (first | (go_at_call 14; (with_reducible refine (frame_Sum.calls _ _ y2 s _ ?side1 ?side2 ?side3 ES.out).mono ?_); (case side1 => repeat (first | exact HR2.out | (with_reducible refine Kd.C_alloc ?_ _) | (with_reducible refine Kd.C_drewN ?_ _) | (with_reducible refine Kd.C_drew ?_))); (case side2 => exact HC2.out); (case side3 => first | exact HL.out | exact laid_at HL.out (pw_below_drewN (Below.refl _ _) _) | exact laid_at HL.out (by repeat (first | exact Below.refl _ _ | apply below_drew1 | apply pw_below_drewN))); rintro e w' ⟨rfl, ⟨nd, rfl⟩⟩; (try first | exact ⟨rfl, _, World.drewN_drewN _ _ _⟩ | exact ⟨rfl, _, Eq.trans (World.drewN_drewN _ _ _) (congrArg (World.drewN _) (Nat.add_assoc _ _ _))⟩)) | (go_at_call 48; (with_reducible refine (frame_word.calls _ _ y3 z _ ?side1 ?side2 EZ.out).mono ?_); (case side1 => repeat (first | exact HR3.out | (with_reducible refine Kd.C_alloc ?_ _) | (with_reducible refine Kd.C_drewN ?_ _) | (with_reducible refine Kd.C_drew ?_))); (case side2 => exact HC3.out); rintro e w' ⟨rfl, ⟨nd, rfl⟩⟩; (try first | exact ⟨rfl, _, World.drewN_drewN _ _ _⟩ | exact ⟨rfl, _, Eq.trans (World.drewN_drewN _ _ _) (congrArg (World.drewN _) (Nat.add_assoc _ _ _))⟩)) | (go_at_call 48; (with_reducible refine (frame_word.calls _ _ left n _ ?side1 ?side2 EN.out).mono ?_); (case side1 => repeat (first | exact HR1.out | (with_reducible refine Kd.C_alloc ?_ _) | (with_reducible refine Kd.C_drewN ?_ _) | (with_reducible refine Kd.C_drew ?_))); (case side2 => exact HC1.out); rintro e w' ⟨rfl, ⟨nd, rfl⟩⟩; (try first | exact ⟨rfl, _, World.drewN_drewN _ _ _⟩ | exact ⟨rfl, _, Eq.trans (World.drewN_drewN _ _ _) (congrArg (World.drewN _) (Nat.add_assoc _ _ _))⟩))); try go_wp2_with (first | (go_at_call 14; (with_reducible refine (frame_Sum.calls _ _ y2 s _ ?side1 ?side2 ?side3 ES.out).mono ?_); (case side1 => repeat (first | exact HR2.out | (with_reducible refine Kd.C_alloc ?_ _) | (with_reducible refine Kd.C_drewN ?_ _) | (with_reducible refine Kd.C_drew ?_))); (case side2 => exact HC2.out); (case side3 => first | exact HL.out | exact laid_at HL.out (pw_below_drewN (Below.refl _ _) _) | exact laid_at HL.out (by repeat (first | exact Below.refl _ _ | apply below_drew1 | apply pw_below_drewN))); rintro e w' ⟨rfl, ⟨nd, rfl⟩⟩; (try first | exact ⟨rfl, _, World.drewN_drewN _ _ _⟩ | exact ⟨rfl, _, Eq.trans (World.drewN_drewN _ _ _) (congrArg (World.drewN _) (Nat.add_assoc _ _ _))⟩)) | (go_at_call 48; (with_reducible refine (frame_word.calls _ _ y3 z _ ?side1 ?side2 EZ.out).mono ?_); (case side1 => repeat (first | exact HR3.out | (with_reducible refine Kd.C_alloc ?_ _) | (with_reducible refine Kd.C_drewN ?_ _) | (with_reducible refine Kd.C_drew ?_))); (case side2 => exact HC3.out); rintro e w' ⟨rfl, ⟨nd, rfl⟩⟩; (try first | exact ⟨rfl, _, World.drewN_drewN _ _ _⟩ | exact ⟨rfl, _, Eq.trans (World.drewN_drewN _ _ _) (congrArg (World.drewN _) (Nat.add_assoc _ _ _))⟩)) | (go_at_call 48; (with_reducible refine (frame_word.calls _ _ left n _ ?side1 ?side2 EN.out).mono ?_); (case side1 => repeat (first | exact HR1.out | (with_reducible refine Kd.C_alloc ?_ _) | (with_reducible refine Kd.C_drewN ?_ _) | (with_reducible refine Kd.C_drew ?_))); (case side2 => exact HC1.out); rintro e w' ⟨rfl, ⟨nd, rfl⟩⟩; (try first | exact ⟨rfl, _, World.drewN_drewN _ _ _⟩ | exact ⟨rfl, _, Eq.trans (World.drewN_drewN _ _ _) (congrArg (World.drewN _) (Nat.add_assoc _ _ _))⟩))))
    refine frame_Decode.gen_world (fun W2 => KeepBut w W2 g none ∧ (∀ B, B ≤ g → Below B w W2) ∧ W2.heap[g]? = some (.cells #[.slice A0 l0.length c0, .int .i64 ((a : Int) + (4 + n + 4))] 58 (0, 0)) ∧ W2.heap.size = w.heap.size) ?_ ?_
    · refine ⟨KeepBut.set_ (KeepBut.of_below (pw_below_drewN (Below.refl _ _) _) _ _) 1 _, fun B hB => Below.setCell (pw_below_drewN (Below.refl _ _) _) hB _, ?_, ?_⟩
      · exact blk_set (blk_drewN HCUR.out _) 1 _
      · simp [World.setCell, World.drewN]
    rintro W2 ⟨hk, hb, hc, hs⟩
    have HRL : Kd.C (Kd.int .u8) W2 A0 l0.length l0 := Kd.C_keep 0 HR0.out hk HNE.out
    have hr4 := HM.out W2 (HA1.out W2 (Kd.reads_of_C HRL))
    rw [show (4 : Int).toNat = 4 from rfl] at hr4 hcutM
    rw [← HY2.out] at hr4 hcutM
    obtain ⟨y4, hy4⟩ : ∃ y, y = y2.drop 4 := ⟨_, rfl⟩
    rw [← hy4] at hr4 hcutM
    have HR4 := Aside0.mk (Kd.C_of_reads (h1 := fun _ => rfl) hr4)
    have hy4l : y4.length ≤ 4194304 := by have := HN.out; rw [hy4, HY2.out, List.length_drop, List.length_take]; omega
    have HY4 := Aside0.mk hy4l
    have HY5 := Aside0.mk hy4
    have HK := Aside0.mk hk
    have HB := Aside0.mk hb
    have HC := Aside0.mk hc
    have HS := Aside0.mk hs
    generalize hcm : c1 - 4 = c4 at hcutM
    clear hk hb hc hs hr4 hy4 hy4l HRL hcut hcutT hcutD hcm e0 e1 e2
    go_region_held3 (fun _ => True) (trivial) (first | (refine Kd.R_append_rows_step (Kd.int .u8) (w0 := W2) W2.heap.size (by rfl) (.tmp 54) (.tmp 57) 23 5 (.int .u8 0) 1 (by rfl) Tryd.underlying23 frame_Decode.info8 rfl (by decide) (by omega) (.slice (some ⟨W2.heap.size, 0, none⟩) 0 n.toNat) [] y4 _ _ _ (fun _ => True) (fun _ => False) (by rfl) (by rfl) ?aO ?aR (fun _ _ h => h) (fun _ h => h.elim) (fun _ _ => trivial) ?aB ?aS ?aL ?_; (case aO => exact Hand.R_of_own (Hand.own_made0 W2.drew W2.heap.size 5 .u8 n.toNat (Nat.le_refl _) (by have := HN.out; omega))); (case aR => first | exact Kd.C_alloc (Kd.C_drew HR4.out) _ | exact Kd.C_alloc HR4.out _); (case aB => first | exact below_alloc (below_drew1 (Below.refl _ _)) _ | exact below_alloc (Below.refl _ _) _); (case aS => simp); (case aL => have := HY4.out; simp; omega); intro v2 w2 ho hb hg hat; have HO2 := Aside0.mk ho; have HB2 := Aside0.mk hb; clear ho hb hg hat))
    go_wp2
    go_ret3
    have hs := HS.out
    refine ⟨_, rfl, ?_, ?_, ?_, ?_⟩
    · rw [← hs, ← HY2.out, ← HY5.out]; exact HO2.out
    · exact (HB2.out.block g (by rw [hs]; exact HG.out)).trans HC.out
    · exact HK.out.trans (KeepBut.of_below HB2.out g none) (.inl rfl)
    · exact fun B hB => (HB.out B hB).trans (HB2.out.mono (by rw [hs]; have := HG.out; omega))
  rw [if_neg c8] at h
  have d5 : (s == z) = false := beq_eq_false_iff_ne.mpr c8
  have d6 : (s != z) = true := bne_iff_ne.mpr c8
  clear ha
  simp only [Option.some.injEq, Prod.mk.injEq] at h
  obtain ⟨rfl, rfl, rfl, rfl⟩ := h
  go_enter Tryd.func41, Tryd.ntmps41
  go_wp2_with (first | (go_at_call 14; (with_reducible refine (frame_Sum.calls _ _ y2 s _ ?side1 ?side2 ?side3 ES.out).mono ?_); (case side1 => repeat (first | exact HR2.out | (with_reducible refine Kd.C_alloc ?_ _) | (with_reducible refine Kd.C_drewN ?_ _) | (with_reducible refine Kd.C_drew ?_))); (case side2 => exact HC2.out); (case side3 => first | exact HL.out | exact laid_at HL.out (pw_below_drewN (Below.refl _ _) _) | exact laid_at HL.out (by repeat (first | exact Below.refl _ _ | apply below_drew1 | apply pw_below_drewN))); rintro e w' ⟨rfl, ⟨nd, rfl⟩⟩; (try first | exact ⟨rfl, _, World.drewN_drewN _ _ _⟩ | exact ⟨rfl, _, Eq.trans (World.drewN_drewN _ _ _) (congrArg (World.drewN _) (Nat.add_assoc _ _ _))⟩)) | (go_at_call 48; (with_reducible refine (frame_word.calls _ _ y3 z _ ?side1 ?side2 EZ.out).mono ?_); (case side1 => repeat (first | exact HR3.out | (with_reducible refine Kd.C_alloc ?_ _) | (with_reducible refine Kd.C_drewN ?_ _) | (with_reducible refine Kd.C_drew ?_))); (case side2 => exact HC3.out); rintro e w' ⟨rfl, ⟨nd, rfl⟩⟩; (try first | exact ⟨rfl, _, World.drewN_drewN _ _ _⟩ | exact ⟨rfl, _, Eq.trans (World.drewN_drewN _ _ _) (congrArg (World.drewN _) (Nat.add_assoc _ _ _))⟩)) | (go_at_call 48; (with_reducible refine (frame_word.calls _ _ left n _ ?side1 ?side2 EN.out).mono ?_); (case side1 => repeat (first | exact HR1.out | (with_reducible refine Kd.C_alloc ?_ _) | (with_reducible refine Kd.C_drewN ?_ _) | (with_reducible refine Kd.C_drew ?_))); (case side2 => exact HC1.out); rintro e w' ⟨rfl, ⟨nd, rfl⟩⟩; (try first | exact ⟨rfl, _, World.drewN_drewN _ _ _⟩ | exact ⟨rfl, _, Eq.trans (World.drewN_drewN _ _ _) (congrArg (World.drewN _) (Nat.add_assoc _ _ _))⟩)))
  repeat (go_quiet (first | (go_at_call 14; (with_reducible refine (frame_Sum.calls _ _ y2 s _ ?side1 ?side2 ?side3 ES.out).mono ?_); (case side1 => repeat (first | exact HR2.out | (with_reducible refine Kd.C_alloc ?_ _) | (with_reducible refine Kd.C_drewN ?_ _) | (with_reducible refine Kd.C_drew ?_))); (case side2 => exact HC2.out); (case side3 => first | exact HL.out | exact laid_at HL.out (pw_below_drewN (Below.refl _ _) _) | exact laid_at HL.out (by repeat (first | exact Below.refl _ _ | apply below_drew1 | apply pw_below_drewN))); rintro e w' ⟨rfl, ⟨nd, rfl⟩⟩; (try first | exact ⟨rfl, _, World.drewN_drewN _ _ _⟩ | exact ⟨rfl, _, Eq.trans (World.drewN_drewN _ _ _) (congrArg (World.drewN _) (Nat.add_assoc _ _ _))⟩)) | (go_at_call 48; (with_reducible refine (frame_word.calls _ _ y3 z _ ?side1 ?side2 EZ.out).mono ?_); (case side1 => repeat (first | exact HR3.out | (with_reducible refine Kd.C_alloc ?_ _) | (with_reducible refine Kd.C_drewN ?_ _) | (with_reducible refine Kd.C_drew ?_))); (case side2 => exact HC3.out); rintro e w' ⟨rfl, ⟨nd, rfl⟩⟩; (try first | exact ⟨rfl, _, World.drewN_drewN _ _ _⟩ | exact ⟨rfl, _, Eq.trans (World.drewN_drewN _ _ _) (congrArg (World.drewN _) (Nat.add_assoc _ _ _))⟩)) | (go_at_call 48; (with_reducible refine (frame_word.calls _ _ left n _ ?side1 ?side2 EN.out).mono ?_); (case side1 => repeat (first | exact HR1.out | (with_reducible refine Kd.C_alloc ?_ _) | (with_reducible refine Kd.C_drewN ?_ _) | (with_reducible refine Kd.C_drew ?_))); (case side2 => exact HC1.out); rintro e w' ⟨rfl, ⟨nd, rfl⟩⟩; (try first | exact ⟨rfl, _, World.drewN_drewN _ _ _⟩ | exact ⟨rfl, _, Eq.trans (World.drewN_drewN _ _ _) (congrArg (World.drewN _) (Nat.add_assoc _ _ _))⟩))); try go_wp2_with (first | (go_at_call 14; (with_reducible refine (frame_Sum.calls _ _ y2 s _ ?side1 ?side2 ?side3 ES.out).mono ?_); (case side1 => repeat (first | exact HR2.out | (with_reducible refine Kd.C_alloc ?_ _) | (with_reducible refine Kd.C_drewN ?_ _) | (with_reducible refine Kd.C_drew ?_))); (case side2 => exact HC2.out); (case side3 => first | exact HL.out | exact laid_at HL.out (pw_below_drewN (Below.refl _ _) _) | exact laid_at HL.out (by repeat (first | exact Below.refl _ _ | apply below_drew1 | apply pw_below_drewN))); rintro e w' ⟨rfl, ⟨nd, rfl⟩⟩; (try first | exact ⟨rfl, _, World.drewN_drewN _ _ _⟩ | exact ⟨rfl, _, Eq.trans (World.drewN_drewN _ _ _) (congrArg (World.drewN _) (Nat.add_assoc _ _ _))⟩)) | (go_at_call 48; (with_reducible refine (frame_word.calls _ _ y3 z _ ?side1 ?side2 EZ.out).mono ?_); (case side1 => repeat (first | exact HR3.out | (with_reducible refine Kd.C_alloc ?_ _) | (with_reducible refine Kd.C_drewN ?_ _) | (with_reducible refine Kd.C_drew ?_))); (case side2 => exact HC3.out); rintro e w' ⟨rfl, ⟨nd, rfl⟩⟩; (try first | exact ⟨rfl, _, World.drewN_drewN _ _ _⟩ | exact ⟨rfl, _, Eq.trans (World.drewN_drewN _ _ _) (congrArg (World.drewN _) (Nat.add_assoc _ _ _))⟩)) | (go_at_call 48; (with_reducible refine (frame_word.calls _ _ left n _ ?side1 ?side2 EN.out).mono ?_); (case side1 => repeat (first | exact HR1.out | (with_reducible refine Kd.C_alloc ?_ _) | (with_reducible refine Kd.C_drewN ?_ _) | (with_reducible refine Kd.C_drew ?_))); (case side2 => exact HC1.out); rintro e w' ⟨rfl, ⟨nd, rfl⟩⟩; (try first | exact ⟨rfl, _, World.drewN_drewN _ _ _⟩ | exact ⟨rfl, _, Eq.trans (World.drewN_drewN _ _ _) (congrArg (World.drewN _) (Nat.add_assoc _ _ _))⟩))))
  go_ret3
  refine ⟨_, rfl, Kd.R_nil _ _ _ _ _, ?_, ?_, ?_⟩
  · first | exact HCUR.out | exact blk_drewN HCUR.out _
  · refine KeepBut.of_below ?_ _ _
    repeat (first | exact Below.refl _ _ | apply below_drew1 | apply pw_below_drewN)
  · intro B hB
    repeat (first | exact Below.refl _ _ | apply below_drew1 | apply pw_below_drewN)
set_option maxRecDepth 100000 in
set_option maxHeartbeats 4000000 in
theorem frame_Decode.calls (A0 : Option Addr) (c0 : Nat) (l0 : List Int) (a1 : Int) (r1 : List Int) (r2 : Int) (r3 : Int) (w : World) (hr0 : Kd.C (Kd.int .u8) w A0 l0.length l0) (hc0 : l0.length ≤ c0) (hL : Laid w) (h : frame_Decode.f l0 a1 = some (r1, r2, r3)) :
    Calls Tryd.prog 26 #[.slice A0 l0.length c0, .int .i64 a1] w fun e w' => ∃ v0_ : Value, e = .returned (.tuple #[v0_, .int .i64 r2, .int .i64 r3]) ∧ Kd.R (Kd.int .u8) 5 w' w.heap.size (fun _ => True) v0_ r1 ∧ Below w.heap.size w w' := by
  have HL := Aside0.mk hL
  have HR := Aside0.mk hr0
  have HC := Aside0.mk hc0
  have hmax := Kd.C_max hr0
  unfold frame_Decode.f at h
  clear hr0 hc0 hL
  by_cases c : a1 < 0 ∨ (l0.length : Int) < a1
  · rw [if_pos c] at h
    simp only [Option.some.injEq, Prod.mk.injEq] at h
    obtain ⟨rfl, rfl, rfl⟩ := h
    by_cases c1 : a1 < 0
    · have d0 : decide (a1 < 0) = true := decide_eq_true c1
      clear c c1 hmax
      go_enter Tryd.func26, Tryd.ntmps26
      go_wp2
      repeat (go_quiet (fail); try go_wp2)
      go_ret3
      exact ⟨_, rfl, Kd.R_nil _ _ _ _ _, by repeat (first | exact Below.refl _ _ | apply below_drew1 | apply pw_below_drewN)⟩
    · have d0 : decide (a1 < 0) = false := decide_eq_false c1
      have d1 : decide ((l0.length : Int) < a1) = true := decide_eq_true (by omega)
      clear c c1 hmax
      go_enter Tryd.func26, Tryd.ntmps26
      go_wp2
      repeat (go_quiet (fail); try go_wp2)
      go_ret3
      exact ⟨_, rfl, Kd.R_nil _ _ _ _ _, by repeat (first | exact Below.refl _ _ | apply below_drew1 | apply pw_below_drewN)⟩
  · rw [if_neg c] at h
    obtain ⟨q, eq, h⟩ := Option.bind_eq_some_iff.mp h
    obtain ⟨p1, p2, p3, p4⟩ := q
    simp only [Option.some.injEq, Prod.mk.injEq] at h
    obtain ⟨rfl, rfl, rfl⟩ := h
    obtain ⟨a, rfl⟩ := Int.eq_ofNat_of_zero_le (show 0 ≤ a1 by omega)
    rw [Int.toNat_natCast] at eq
    have d0 : decide ((a : Int) < 0) = false := decide_eq_false (by omega)
    have d1 : decide (l0.length < a) = false := decide_eq_false (by omega)
    have EQ := Aside0.mk eq
    have HA := Aside0.mk (show a ≤ l0.length from by omega)
    have hne : ∀ ad, A0 = some ad → 0 < l0.length → ad.block ≠ w.heap.size := by
      intro ad he hp hE
      subst he
      have h1 := Kd.C_lt HR.out hp (show 0 < 1 from Nat.one_pos)
      omega
    have HNE := Aside0.mk hne
    clear eq c hmax hne
    go_enter Tryd.func26, Tryd.ntmps26
    go_wp2_with (first | (go_at_call 41; (have hnx := frame_Decode.next w.heap.size A0 c0 l0 a p1 p2 p3 p4 (w.alloc (.cells #[.slice A0 l0.length c0, .int .i64 (a : Int)] 58)) (blk_new w _) (Kd.C_alloc HR.out _) HC.out HA.out HNE.out (laid_at HL.out (below_alloc (Below.refl _ _) _)) EQ.out); (with_reducible refine hnx.mono ?_); clear hnx; rintro e w2 ⟨v, rfl, ho, hcc, hk, hb⟩; have HO2 := Aside0.mk ho; have HB2 := Aside0.mk (hb w.heap.size (Nat.le_refl _)); have e4 : w2.cell? ⟨w.heap.size, 1, none⟩ = some (.int .i64 p4) := by simp [World.cell?, hcc]))
    repeat (go_quiet (fail); try go_wp2)
    go_ret3
    refine ⟨_, rfl, ?_, ?_⟩
    · exact Kd.R_drewN (Kd.R_lower HO2.out (by simp)) _
    · exact pw_below_drewN ((below_alloc (Below.refl _ _) _).trans HB2.out) _

-- NOT PRINTED: function 31 (frame_All)

/-! ### frame_Scan: function 28 (by hand) -/
section
theorem frame_Scan.info23 : (Tryd.prog.info? 23).map (fun i => (i.zero, i.size, i.bytes)) = some (some (.slice none 0 0), 1, 24) := by kernel_rfl
def frame_Scan.g : Nat → List Int → Nat → Option (List (List Int) × Int × Int)
  | 0, _, _ => none
  | k + 1, l, a => (frame_Decode.nx l a).bind fun q => if q.2.2.1 = true then (frame_Scan.g k l q.2.2.2.toNat).bind fun r => some (q.1 :: r.1, r.2.1, r.2.2) else some ([], (a : Int), q.2.1)
def frame_Scan.f (k : Nat) (l0 : List Int) : Option (List (List Int) × Int × Int) := if l0.length ≤ 1000000000 then frame_Scan.g k l0 0 else none
theorem frame_Scan.mono_g : ∀ k l a, LeO (frame_Scan.g k l a) (frame_Scan.g (k + 1) l a)
  | 0, _, _ => fun r h => by simp [frame_Scan.g] at h
  | k + 1, l, a => by
    unfold frame_Scan.g
    refine LeO.bind (LeO.refl _) (fun q => ?_)
    refine LeO.ite ?_ (LeO.refl _)
    exact LeO.bind (frame_Scan.mono_g k l _) (fun r => LeO.refl _)
theorem frame_Scan.mono : ∀ a0 k, LeO (frame_Scan.f k a0) (frame_Scan.f (k + 1) a0) := by
  intro a0 k
  unfold frame_Scan.f
  exact LeO.ite (frame_Scan.mono_g k a0 0) (LeO.refl _)
theorem frame_Scan.nx_whole {l : List Int} {a : Nat} {p : List Int} {t a' : Int} (ha : a ≤ l.length) (h : frame_Decode.nx l a = some (p, t, true, a')) : a' = (((a + 4 + p.length + 4 : Nat)) : Int) ∧ a + 4 + p.length + 4 ≤ l.length := by
  unfold frame_Decode.nx at h
  have hd : (l.drop a).length = l.length - a := List.length_drop
  split at h
  · simp at h
  split at h
  · simp at h
  obtain ⟨n, hn, h⟩ := Option.bind_eq_some_iff.mp h
  split at h
  · simp at h
  split at h
  · simp at h
  split at h
  · simp at h
  obtain ⟨s, hs, h⟩ := Option.bind_eq_some_iff.mp h
  obtain ⟨z, hz, h⟩ := Option.bind_eq_some_iff.mp h
  split at h
  · simp only [Option.some.injEq, Prod.mk.injEq, true_and] at h
    obtain ⟨hp, _, ha'⟩ := h
    have hpl : p.length = n.toNat := by rw [← hp, List.length_drop, List.length_take]; omega
    omega
  · simp at h
theorem frame_Scan.nx_not {l : List Int} {a : Nat} {p : List Int} {t a' : Int} (h : frame_Decode.nx l a = some (p, t, false, a')) : p = [] ∧ a' = (a : Int) := by
  unfold frame_Decode.nx at h
  split at h
  · simp only [Option.some.injEq, Prod.mk.injEq] at h; exact ⟨h.1.symm, h.2.2.2.symm⟩
  split at h
  · simp only [Option.some.injEq, Prod.mk.injEq] at h; exact ⟨h.1.symm, h.2.2.2.symm⟩
  obtain ⟨n, hn, h⟩ := Option.bind_eq_some_iff.mp h
  split at h
  · simp only [Option.some.injEq, Prod.mk.injEq] at h; exact ⟨h.1.symm, h.2.2.2.symm⟩
  split at h
  · simp at h
  split at h
  · simp only [Option.some.injEq, Prod.mk.injEq] at h; exact ⟨h.1.symm, h.2.2.2.symm⟩
  obtain ⟨s, hs, h⟩ := Option.bind_eq_some_iff.mp h
  obtain ⟨z, hz, h⟩ := Option.bind_eq_some_iff.mp h
  split at h
  · simp at h
  · simp only [Option.some.injEq, Prod.mk.injEq] at h; exact ⟨h.1.symm, h.2.2.2.symm⟩
/-- The bytes of these payloads' frames. -/
def frame_Scan.en : List (List Int) → Nat
  | [] => 0
  | p :: ps => p.length + 8 + frame_Scan.en ps
theorem frame_Scan.en_snoc (p : List Int) : ∀ ps, frame_Scan.en (ps ++ [p]) = frame_Scan.en ps + (p.length + 8)
  | [] => by simp [frame_Scan.en]
  | q :: ps => by rw [List.cons_append]; unfold frame_Scan.en; rw [frame_Scan.en_snoc p ps]; omega
theorem frame_Scan.en_len : ∀ ps, 8 * ps.length ≤ frame_Scan.en ps
  | [] => by simp
  | q :: ps => by have := frame_Scan.en_len ps; unfold frame_Scan.en; rw [List.length_cons]; omega
/-- What has come, and where the frames go on. -/
def frame_Scan.Pu (l0 : List Int) (r1 : List (List Int)) (r2 r3 : Int) (ps : List (List Int)) (a : Nat) : Prop := a ≤ l0.length ∧ a = frame_Scan.en ps ∧ ∃ k rs, frame_Scan.g k l0 a = some (rs, r2, r3) ∧ r1 = ps ++ rs
theorem frame_Scan.pu_cases {l0 : List Int} {r1 : List (List Int)} {r2 r3 : Int} {ps : List (List Int)} {a : Nat} (h : frame_Scan.Pu l0 r1 r2 r3 ps a) :
    (∃ p t, frame_Decode.nx l0 a = some (p, t, true, (((a + 4 + p.length + 4 : Nat)) : Int)) ∧ frame_Scan.Pu l0 r1 r2 r3 (ps ++ [p]) (a + 4 + p.length + 4)) ∨
    (frame_Decode.nx l0 a = some ([], r3, false, (a : Int)) ∧ r2 = (a : Int) ∧ r1 = ps) := by
  obtain ⟨ha, h8, k, rs, hg, hr⟩ := h
  cases k with
  | zero => simp [frame_Scan.g] at hg
  | succ k =>
    unfold frame_Scan.g at hg
    obtain ⟨⟨p, t, b, a'⟩, hq, hg⟩ := Option.bind_eq_some_iff.mp hg
    cases b with
    | true =>
      simp only [if_true] at hg
      obtain ⟨q, hq2, hg⟩ := Option.bind_eq_some_iff.mp hg
      obtain ⟨q1, q2, q3⟩ := q
      simp only [Option.some.injEq, Prod.mk.injEq] at hg
      obtain ⟨rfl, rfl, rfl⟩ := hg
      obtain ⟨e, hle⟩ := frame_Scan.nx_whole ha hq
      rw [e] at hq hq2
      rw [Int.toNat_natCast] at hq2
      exact .inl ⟨p, t, hq, hle, by rw [frame_Scan.en_snoc, h8]; omega, k, q1, hq2, by rw [hr, List.append_assoc]; rfl⟩
    | false =>
      rw [if_neg (by simp)] at hg
      simp only [Option.some.injEq, Prod.mk.injEq] at hg
      obtain ⟨rfl, rfl, rfl⟩ := hg
      obtain ⟨rfl, rfl⟩ := frame_Scan.nx_not hq
      exact .inr ⟨hq, rfl, by rw [hr, List.append_nil]⟩
set_option maxRecDepth 100000 in
theorem frame_Scan.all_ (A0 : Option Addr) (n c0 : Nat) (w : World) :
    Calls Tryd.prog 31 #[.slice A0 n c0] w fun e w' => e = .returned (.func (.func 44) #[] #[.pointer (some ⟨w.heap.size, 0, none⟩)]) ∧ w' = w.alloc (.cells #[.slice A0 n c0] 23) := by
  go_enter Tryd.func31, Tryd.ntmps31
  go_wp2
  go_ret
  exact ⟨rfl, rfl⟩
/-- What the call's own blocks hold between two rounds (M: where the payloads lie). -/
structure frame_Scan.Hold (A0 : Option Addr) (c0 : Nat) (l0 : List Int) (w0 : World) (ps : List (List Int)) (a a' : Nat) (M : Nat → Prop) (W : World) : Prop where
  box : ∃ u, W.heap[w0.heap.size]? = some (.cells #[u] 30 (0, 0)) ∧ Kd.S (Kd.slice 5 (Kd.int .u8)) 23 W (w0.heap.size + 6) M u ps
  fin : W.heap[w0.heap.size + 1]? = some (.cells #[.int .i64 (a : Int)] 3 (0, 0))
  file : W.heap[w0.heap.size + 2]? = some (.cells #[.slice A0 l0.length c0] 23 (0, 0))
  below : Below w0.heap.size w0 W
  cur : w0.heap.size + 5 < W.heap.size → W.heap[w0.heap.size + 5]? = some (.cells #[.slice A0 l0.length c0, .int .i64 (a' : Int)] 58 (0, 0))
variable {A0 : Option Addr} {c0 : Nat} {l0 : List Int} {w0 : World} {ps : List (List Int)} {a a' a'' : Nat} {M : Nat → Prop} {W W' : World}
theorem frame_Scan.Hold.put (h : frame_Scan.Hold A0 c0 l0 w0 ps a a' M W) {l : Nat} {o : Obj} (o' : Obj) (h1 : w0.heap.size + 3 ≤ l) (h2 : l ≤ w0.heap.size + 4) (hl : W.heap[l]? = some o) : frame_Scan.Hold A0 c0 l0 w0 ps a a' M (W.putObj l o') := by
  obtain ⟨⟨u, hu, hs⟩, hf, hi, hb, hc⟩ := h
  refine ⟨⟨u, (World.putObj_heap_other (by omega)).trans hu, ?_⟩, (World.putObj_heap_other (by omega)).trans hf, (World.putObj_heap_other (by omega)).trans hi, ?_, fun hlt => (World.putObj_heap_other (by omega)).trans (hc (by simpa using hlt))⟩
  · exact Kd.S_mono (Kd.S_step (Kd.S_bound hs) (fun k hk _ => World.putObj_heap_other (by have := hk.2.1; omega))) (fun _ hk => hk.1)
  · exact hb.grown (grownBy_putObj' W l o') hb.size (fun k e => by cases e; omega)
theorem frame_Scan.Hold.keep (h : frame_Scan.Hold A0 c0 l0 w0 ps a a' M W) (hk : KeepBut W W' (w0.heap.size + 5) none) (hb : Below w0.heap.size W W') (hlt : w0.heap.size + 4 < W.heap.size) (hc : W'.heap[w0.heap.size + 5]? = some (.cells #[.slice A0 l0.length c0, .int .i64 (a'' : Int)] 58 (0, 0))) : frame_Scan.Hold A0 c0 l0 w0 ps a a'' (fun k => M k ∧ k < W.heap.size) W' := by
  obtain ⟨⟨u, hu, hs⟩, hf, hi, hbb, _⟩ := h
  refine ⟨⟨u, hk.blk hu (by omega) (by simp), ?_⟩, hk.blk hf (by omega) (by simp), hk.blk hi (by omega) (by simp), hbb.trans hb, fun _ => hc⟩
  exact Kd.S_mono (Kd.S_step (Kd.S_bound hs) (fun k hkk hlt2 => hk.2 k hlt2 (by have := hkk.2.1; omega) (by simp))) (fun _ hkk => ⟨hkk.1, hkk.2.2.1⟩)
theorem frame_Scan.Hold.mono {M' : Nat → Prop} (h : frame_Scan.Hold A0 c0 l0 w0 ps a a' M W) (hM : ∀ k, M k → M' k) : frame_Scan.Hold A0 c0 l0 w0 ps a a' M' W := by
  obtain ⟨⟨u, hu, hs⟩, hf, hi, hb, hc⟩ := h
  exact ⟨⟨u, hu, Kd.S_mono hs hM⟩, hf, hi, hb, hc⟩
def frame_Scan.Pl (xs : List (Int × List Int × Value)) : List (List Int) := xs.map (fun x => x.2.1)
def frame_Scan.I (A0 : Option Addr) (c0 : Nat) (l0 : List Int) (w0 : World) (r1 : List (List Int)) (r2 r3 : Int) (xs : List (Int × List Int × Value)) (W : World) : Prop :=
  ∃ a : Nat, frame_Scan.Pu l0 r1 r2 r3 (frame_Scan.Pl xs) a ∧ frame_Scan.Hold A0 c0 l0 w0 (frame_Scan.Pl xs) a a (fun _ => True) W ∧ (xs ≠ [] → w0.heap.size + 5 < W.heap.size)
def frame_Scan.Pt (A0 : Option Addr) (c0 : Nat) (l0 : List Int) (w0 : World) (r1 : List (List Int)) (r2 r3 : Int) (xs : List (Int × List Int × Value)) (x : Int × List Int × Value) (W : World) : Prop :=
  ∃ a M : Nat, x.1 = (a : Int) ∧ frame_Scan.Pu l0 r1 r2 r3 (frame_Scan.Pl xs ++ [x.2.1]) (a + 4 + x.2.1.length + 4) ∧ frame_Scan.Hold A0 c0 l0 w0 (frame_Scan.Pl xs) a (a + 4 + x.2.1.length + 4) (fun k => k < M) W ∧ Kd.R (Kd.int .u8) 5 W M (fun _ => True) x.2.2 x.2.1 ∧ w0.heap.size + 6 ≤ M ∧ w0.heap.size + 5 < W.heap.size
theorem frame_Scan.fits {l0 : List Int} {r1 : List (List Int)} {r2 r3 : Int} {ps : List (List Int)} {a : Nat} (h : frame_Scan.Pu l0 r1 r2 r3 ps a) (hl : l0.length ≤ 1000000000) : a ≤ 1000000000 ∧ ps.length ≤ 1000000000 := by
  obtain ⟨h1, h2, _⟩ := h
  have := frame_Scan.en_len ps
  omega

attribute [local go_sem] Oper.semAt_some
set_option maxRecDepth 100000 in
set_option maxHeartbeats 4000000 in
theorem frame_Scan.all1 (A0 : Option Addr) (c0 : Nat) (l0 : List Int) (w0 : World) (r1 : List (List Int)) (r2 r3 : Int) (hr0 : Kd.C (Kd.int .u8) w0 A0 l0.length l0) (hc0 : l0.length ≤ c0) (hL : Laid w0) (hlen : l0.length ≤ 1000000000)
    (Bk : World → Prop) (hBk : ∀ W W', Bk W → W'.heap[w0.heap.size + 3]? = W.heap[w0.heap.size + 3]? → W'.heap[w0.heap.size + 4]? = W.heap[w0.heap.size + 4]? → Bk W') (hBs : ∀ W, Bk W → w0.heap.size + 4 < W.heap.size) (n : Nat)
    (W1 : World) (hsize : W1.heap.size = w0.heap.size + 5) (hI0 : frame_Scan.I A0 c0 l0 w0 r1 r2 r3 [] W1) (hB1 : Bk W1)
    (hY : ∀ xs x W, frame_Scan.Pt A0 c0 l0 w0 r1 r2 r3 xs x W → Bk W → YieldAt Fence.wide (n - 1) Tryd.prog (w0.heap.size + 4) #[.int .i64 x.1, x.2.2] W fun e W' => e = .returned (.bool true) ∧ frame_Scan.I A0 c0 l0 w0 r1 r2 r3 (xs ++ [x]) W' ∧ Bk W') :
    CallsIn Fence.wide n Tryd.prog 44 #[.func (.yield (w0.heap.size + 4)) #[] #[], .pointer (some ⟨w0.heap.size + 2, 0, none⟩)] W1 fun e W' => (∃ v, e = .returned v) ∧ ∃ xs, r1 = frame_Scan.Pl xs ∧ frame_Scan.I A0 c0 l0 w0 r1 r2 r3 xs W' ∧ Bk W' := by
  have hmax := Kd.C_max hr0
  obtain ⟨a, hpu, hh, _⟩ := hI0
  obtain rfl : a = 0 := hpu.2.1
  have HPU := Aside0.mk hpu
  have HH := Aside0.mk hh
  have HY := Aside0.mk hY
  have HBK := Aside0.mk hBk
  have HB1 := Aside0.mk hB1
  have HS := Aside0.mk hBs
  have HR := Aside0.mk hr0
  have HL := Aside0.mk hL
  have HC := Aside0.mk hc0
  have HLEN := Aside0.mk hlen
  have HSZ := Aside0.mk hsize
  have e0 : W1.cell? ⟨w0.heap.size + 2, 0, none⟩ = some (.slice A0 l0.length c0) := by simp [World.cell?, hh.file]
  clear hpu hh hY hBk hB1 hBs hr0 hL hc0 hlen hmax
  refine callsIn_of_wp Tryd.func44 rfl trivial ?_ rfl
  simp only [Tryd.ntmps44, List.size_toArray, List.length_cons, List.length_nil, Nat.reduceAdd, Nat.reduceSub, Array.replicate_succ, Array.replicate_zero, List.push_toArray, List.append_toArray, List.nil_append, List.cons_append]
  gi_wp2
  gi_loopw [] (fun wr => ∃ (xs : List (Int × List Int × Value)) (a : Nat), Aside0 (frame_Scan.Pu l0 r1 r2 r3 (frame_Scan.Pl xs) a) ∧ Aside0 (frame_Scan.Hold A0 c0 l0 w0 (frame_Scan.Pl xs) a a (fun _ => True) wr) ∧ Aside0 (w0.heap.size + 5 < wr.heap.size) ∧ Aside0 (Bk wr))
    (fun wr => l0.length - (intOf ((wr.cell? ⟨w0.heap.size + 1, 0, none⟩).getD undef)).toNat)
  case atStart =>
    have hb1 : Below w0.heap.size W1 (W1.alloc (.cells #[.slice A0 l0.length c0, .int .i64 0] 58)) := (below_alloc (Below.refl W1.heap.size W1) _).mono (by omega)
    refine ⟨[], 0, HPU, ⟨(HH.out.keep (a'' := 0) (KeepBut.of_below (below_alloc (Below.refl _ _) _) _ _) hb1 (by omega) ?_).mono (fun _ _ => trivial)⟩, ⟨by simp; omega⟩, ⟨HBK.out _ _ HB1.out (Below.heap_alloc _ _ _ (by omega)) (Below.heap_alloc _ _ _ (by omega))⟩⟩
    have := World.alloc_heap_new W1 (.cells #[.slice A0 l0.length c0, .int .i64 0] 58)
    rw [HSZ.out] at this
    exact this
  case round =>
    obtain ⟨xs, a, HPU2, HH2, HLT, HBK2⟩ := hrel
    have hcur := HH2.out.cur HLT.out
    have hne : ∀ ad, A0 = some ad → 0 < l0.length → ad.block ≠ w0.heap.size + 5 := by
      intro ad he hp hE
      subst he
      have h1 := Kd.C_lt HR.out hp (show 0 < 1 from Nat.one_pos)
      omega
    have e1 : wr.cell? ⟨w0.heap.size + 5, 1, none⟩ = some (.int .i64 (a : Int)) := by simp [World.cell?, hcur]
    have e2 : (wr.cell? ⟨w0.heap.size + 1, 0, none⟩).getD undef = .int .i64 (a : Int) := by simp [World.cell?, HH2.out.fin]
    rcases frame_Scan.pu_cases HPU2.out with ⟨p, t, hnx, hpu⟩ | ⟨hnx, hr2, hr1⟩
    · have hnxt := frame_Decode.next (w0.heap.size + 5) A0 c0 l0 a p t true _ wr hcur (Kd.C_below HR.out HH2.out.below) HC.out HPU2.out.1 hne (laid_at HL.out HH2.out.below) hnx
      have HP3 := Aside0.mk hpu
      have HE2 := Aside0.mk e2
      clear hnx hcur hne hpu e2
      gi_wp2_with (first | (refine ⟨trivial, (fun h => by cases h), ?_⟩; refine ((callsIn_wide (n := n - 1)).2 hnxt).mono ?_; clear hnxt; rintro e w2 ⟨v, rfl, ho, hcc, hk, hb⟩; have hold := HH2.out.keep hk (hb _ (by omega)) (by have := HLT.out; omega) hcc; have hbk := HBK.out wr w2 HBK2.out (hk.2 _ (by have := HLT.out; omega) (by omega) (by simp)) (hk.2 _ (by have := HLT.out; omega) (by omega) (by simp)); obtain ⟨fn, tmps, assign, body, hy, hR⟩ := HY.out xs ((a : Int), p, v) w2 ⟨a, wr.heap.size, rfl, HP3.out, hold.mono (fun _ hk => hk.2), ho, HLT.out, by have := hk.1; have := HLT.out; omega⟩ hbk; dsimp only at hy; clear ho hcc hk hb hold hbk))
      refine ⟨(fun h => by cases h), hR.mono ?_⟩
      rintro e W3 ⟨rfl, ⟨a3, hpu3, hh3, hlt3⟩, hbk3⟩
      gi_wp2
      go_roundw
      case rel => exact ⟨_, a3, ⟨hpu3⟩, ⟨hh3⟩, ⟨hlt3 (by simp)⟩, ⟨hbk3⟩⟩
      case measure =>
        have e3 : (W3.cell? ⟨w0.heap.size + 1, 0, none⟩).getD undef = .int .i64 (a3 : Int) := by simp [World.cell?, hh3.fin]
        have h4 : a3 = a + (p.length + 8) := by
          have h5 := hpu3.2.1
          rw [show frame_Scan.Pl (xs ++ [((a : Int), p, v)]) = frame_Scan.Pl xs ++ [p] from by simp [frame_Scan.Pl], frame_Scan.en_snoc, ← HPU2.out.2.1] at h5
          exact h5
        have h6 := hpu3.1
        simp only [e3, HE2.out, intOf, Int.toNat_natCast]
        omega
    · have hnxt := frame_Decode.next (w0.heap.size + 5) A0 c0 l0 a [] r3 false _ wr hcur (Kd.C_below HR.out HH2.out.below) HC.out HPU2.out.1 hne (laid_at HL.out HH2.out.below) hnx
      have HR1 := Aside0.mk hr1
      clear hnx hcur hne hr1 hr2 e2
      gi_wp2_with (first | (refine ⟨trivial, (fun h => by cases h), ?_⟩; refine ((callsIn_wide (n := n - 1)).2 hnxt).mono ?_; clear hnxt; rintro e w2 ⟨v, rfl, ho, hcc, hk, hb⟩; have hold := HH2.out.keep hk (hb _ (by omega)) (by have := HLT.out; omega) hcc; have hbk := HBK.out wr w2 HBK2.out (hk.2 _ (by have := HLT.out; omega) (by omega) (by simp)) (hk.2 _ (by have := HLT.out; omega) (by omega) (by simp)); have HOLD := Aside0.mk hold; have HBK3 := Aside0.mk hbk; have HK1 := Aside0.mk hk.1; clear ho hcc hk hb hold hbk))
      refine ⟨fun _ h => (by cases h), ?_⟩
      gi_wp2
      refine bodyPost_ret (results_none rfl _ _ _) rfl ?_
      exact ⟨⟨_, rfl⟩, xs, HR1.out, ⟨a, HPU2.out, HOLD.out.mono (fun _ _ => trivial), fun _ => by have := HK1.out; have := HLT.out; omega⟩, HBK3.out⟩

theorem frame_Scan.gen_in {F : Fence} {n : Nat} {P : Program} {c : Code} {Q : Exit → Act → World → Prop} {a : Act} {W : World} (G : World → Prop) (h0 : G W) (h : ∀ W2, G W2 → c.wpIn F n P Q a W2) : c.wpIn F n P Q a W := h W h0
theorem frame_Scan.grow (h : frame_Scan.Hold A0 c0 l0 w0 ps a a' M W) (hb : Below W.heap.size W W') (hle : w0.heap.size ≤ W.heap.size) (hs : W'.heap.size ≤ w0.heap.size + 5) : frame_Scan.Hold A0 c0 l0 w0 ps a a' M W' := by
  obtain ⟨⟨u, hu, hS⟩, hf, hi, hbb, _⟩ := h
  exact ⟨⟨u, (hb.block _ (blk_lt hu)).trans hu, Kd.S_below hS hb⟩, (hb.block _ (blk_lt hf)).trans hf, (hb.block _ (blk_lt hi)).trans hi, hbb.trans (hb.mono hle), fun h => by omega⟩
theorem frame_Scan.done_ {l0 : List Int} {r1 : List (List Int)} {r2 r3 : Int} {ps : List (List Int)} {a : Nat} (h : frame_Scan.Pu l0 r1 r2 r3 ps a) (he : r1 = ps) : frame_Decode.f l0 (a : Int) = some ([], (a : Int), r3) ∧ r2 = (a : Int) := by
  rcases frame_Scan.pu_cases h with ⟨p, t, _, hp⟩ | ⟨hq, hr, _⟩
  · obtain ⟨_, _, k, rs, _, hr⟩ := hp
    have := congrArg List.length (he.symm.trans hr)
    simp at this
  · refine ⟨?_, hr⟩
    have := h.1
    unfold frame_Decode.f
    rw [if_neg (by omega), Int.toNat_natCast, hq]
    rfl
/-- What the call leaves. -/
structure frame_Scan.Fin (w : World) (u : Value) (a : Int) (ps : List (List Int)) (W : World) : Prop where
  box : W.heap[w.heap.size]? = some (.cells #[u] 30 (0, 0))
  fin : W.heap[w.heap.size + 1]? = some (.cells #[.int .i64 a] 3 (0, 0))
  shelf : Kd.S (Kd.slice 5 (Kd.int .u8)) 23 W (w.heap.size + 6) (fun _ => True) u ps
  mark : W.heap[w.heap.size + 3]? = some (.deferred (some []))
  below : Below w.heap.size w W
structure frame_Scan.Fin' (w : World) (u : Value) (a : Int) (ps : List (List Int)) (W : World) : Prop where
  box : W.heap[w.heap.size]? = some (.cells #[u] 30 (0, 0))
  fin : W.heap[w.heap.size + 1]? = some (.cells #[.int .i64 a] 3 (0, 0))
  shelf : Kd.S (Kd.slice 5 (Kd.int .u8)) 23 W (w.heap.size + 6) (fun _ => True) u ps
  below : Below w.heap.size w W
  c0 : W.cell? ⟨w.heap.size, 0, none⟩ = some u
  c1 : W.cell? ⟨w.heap.size + 1, 0, none⟩ = some (.int .i64 a)
theorem frame_Scan.Fin.put3 {w : World} {u : Value} {a : Int} {ps : List (List Int)} {W : World} (h : frame_Scan.Fin w u a ps W) (o' : Obj) : frame_Scan.Fin' w u a ps (W.putObj (w.heap.size + 3) o') := by
  have hb := (World.putObj_heap_other (w := W) (o := o') (show w.heap.size ≠ w.heap.size + 3 by omega)).trans h.box
  have hf := (World.putObj_heap_other (w := W) (o := o') (show w.heap.size + 1 ≠ w.heap.size + 3 by omega)).trans h.fin
  refine ⟨hb, hf, ?_, ?_, by simp [World.cell?, hb], by simp [World.cell?, hf]⟩
  · exact Kd.S_mono (Kd.S_step (Kd.S_bound h.shelf) (fun k hk _ => World.putObj_heap_other (by have := hk.2.1; omega))) (fun _ hk => hk.1)
  · exact h.below.grown (grownBy_putObj' W _ o') h.below.size (fun k e => by cases e; omega)
def frame_Scan.FinS (w : World) (u : Value) (a : Int) (ps : List (List Int)) (W : World) : Prop := frame_Scan.Fin w u a ps W ∧ W.cell? ⟨w.heap.size, 0, none⟩ = some u ∧ W.cell? ⟨w.heap.size + 1, 0, none⟩ = some (.int .i64 a) ∧ W.frozen? ⟨w.heap.size, 0, none⟩ = false ∧ W.frozen? ⟨w.heap.size + 1, 0, none⟩ = false
theorem frame_Scan.Fin.all {w : World} {u : Value} {a : Int} {ps : List (List Int)} {W : World} (h : frame_Scan.Fin w u a ps W) : frame_Scan.FinS w u a ps W :=
  ⟨h, by simp [World.cell?, h.box], by simp [World.cell?, h.fin], by simp [World.frozen?, h.box], by simp [World.frozen?, h.fin]⟩
theorem frame_Scan.Fin.drew {w : World} {u : Value} {a : Int} {ps : List (List Int)} {W : World} (h : frame_Scan.Fin w u a ps W) : frame_Scan.Fin w u a ps W.drew :=
  ⟨h.box, h.fin, Kd.S_drew h.shelf, h.mark, below_drew1 h.below⟩
theorem frame_Scan.Fin.set0 {w : World} {u : Value} {a : Int} {ps : List (List Int)} {W : World} (h : frame_Scan.Fin w u a ps W) : frame_Scan.Fin w u a ps (W.setCell ⟨w.heap.size, 0, none⟩ u) :=
  ⟨blk_set h.box 0 u, (Below.heap_setCell _ _ _ _ (by simp)).trans h.fin, Kd.S_mono (Kd.S_far (Kd.S_bound h.shelf) (fun k hk => by have := hk.2.1; simp; omega) _) (fun _ _ => trivial), (Below.heap_setCell _ _ _ _ (by simp)).trans h.mark, Below.setCell h.below (Nat.le_refl _) _⟩
theorem frame_Scan.Fin.set1 {w : World} {u : Value} {a : Int} {ps : List (List Int)} {W : World} (h : frame_Scan.Fin w u a ps W) : frame_Scan.Fin w u a ps (W.setCell ⟨w.heap.size + 1, 0, none⟩ (.int .i64 a)) :=
  ⟨(Below.heap_setCell _ _ _ _ (by simp)).trans h.box, blk_set h.fin 0 _, Kd.S_mono (Kd.S_far (Kd.S_bound h.shelf) (fun k hk => by have := hk.2.1; simp; omega) _) (fun _ _ => trivial), (Below.heap_setCell _ _ _ _ (by simp)).trans h.mark, Below.setCell h.below (by simp) _⟩
theorem frame_Scan.FinS.set0 {w : World} {u : Value} {a : Int} {ps : List (List Int)} {W : World} (h : frame_Scan.FinS w u a ps W) : frame_Scan.FinS w u a ps (W.setCell ⟨w.heap.size, 0, none⟩ u) := h.1.set0.all
theorem frame_Scan.FinS.set1 {w : World} {u : Value} {a : Int} {ps : List (List Int)} {W : World} (h : frame_Scan.FinS w u a ps W) : frame_Scan.FinS w u a ps (W.setCell ⟨w.heap.size + 1, 0, none⟩ (.int .i64 a)) := h.1.set1.all
set_option maxRecDepth 100000 in
set_option maxHeartbeats 4000000 in
theorem frame_Scan.calls (k : Nat) (A0 : Option Addr) (c0 : Nat) (l0 : List Int) (r1 : List (List Int)) (r2 : Int) (r3 : Int) (w : World) (hr0 : Kd.C (Kd.int .u8) w A0 l0.length l0) (hc0 : l0.length ≤ c0) (hL : Laid w) (h : frame_Scan.f k l0 = some (r1, r2, r3)) :
    Calls Tryd.prog 28 #[.slice A0 l0.length c0] w fun e w' => ∃ v0_ : Value, e = .returned (.tuple #[v0_, .int .i64 r2, .int .i64 r3]) ∧ Kd.S (Kd.slice 5 (Kd.int .u8)) 23 w' w.heap.size (fun _ => True) v0_ r1 ∧ Below w.heap.size w w' := by
  unfold frame_Scan.f at h
  split at h
  case isFalse => cases h
  rename_i hlen
  have HPU := Aside0.mk (show frame_Scan.Pu l0 r1 r2 r3 [] 0 from ⟨Nat.zero_le _, rfl, k, r1, h, rfl⟩)
  have HR := Aside0.mk hr0
  have HL := Aside0.mk hL
  have HC := Aside0.mk hc0
  have HLEN := Aside0.mk hlen
  clear h hr0 hL hc0 hlen
  refine (callsIn_wide (n := 9)).1 ?_
  refine callsIn_of_wp_marks Tryd.func28 rfl trivial ?_ rfl
  simp only [Tryd.ntmps28, List.size_toArray, List.length_cons, List.length_nil, Nat.reduceAdd, Nat.reduceSub, Array.replicate_succ, Array.replicate_zero, List.push_toArray, List.append_toArray, List.nil_append, List.cons_append]
  gi_wp2_with (first | (refine ⟨trivial, ?_⟩; refine ((callsIn_wide (n := 8)).2 (frame_Scan.all_ A0 l0.length c0 _)).mono ?_; rintro e w' ⟨rfl, rfl⟩))
  refine frame_Scan.gen_in (fun W => W.heap.size = w.heap.size + 3 ∧ frame_Scan.Hold A0 c0 l0 w [] 0 0 (fun _ => True) W) ?_ ?_
  · refine ⟨by simp, ⟨⟨_, ?_, Kd.S_nil _ _ _ _ _⟩, ?_, ?_, ?_, fun h => by exfalso; simp only [World.size_alloc] at h; omega⟩⟩
    · exact blk_alloc (blk_alloc (blk_new w _) _) _
    · have := blk_new (w.alloc (.cells #[.slice none 0 0] 30)) (.cells #[.int .i64 0] 3)
      rw [World.size_alloc] at this
      exact blk_alloc this _
    · have := blk_new ((w.alloc (.cells #[.slice none 0 0] 30)).alloc (.cells #[.int .i64 0] 3)) (.cells #[.slice A0 l0.length c0] 23)
      rw [World.size_alloc, World.size_alloc] at this
      exact this
    · exact below_alloc (below_alloc (below_alloc (Below.refl _ _) _) _) _
  rintro wS ⟨hsz, hh0⟩
  have HH0 := Aside0.mk hh0
  have HSZ := Aside0.mk hsz
  clear hsz hh0
  refine Iter.range_own rfl (by omega) (gf := 44) (lb := #[.pointer (some ⟨w.heap.size + 2, 0, none⟩)]) rfl trivial (enters_of Tryd.func44 (by kernel_rfl) rfl) (fun x : Int × List Int × Value => #[.int .i64 x.1, x.2.2]) (fun _ => rfl) (fun xs => r1 = frame_Scan.Pl xs)
    (frame_Scan.I A0 c0 l0 w r1 r2 r3) (frame_Scan.Pt A0 c0 l0 w r1 r2 r3) ?hI ?hP ?h0
    (fun x => { tmps := #[.slice A0 l0.length c0, undef, .pointer (some ⟨w.heap.size, 0, none⟩), .pointer (some ⟨w.heap.size + 1, 0, none⟩), .int .i64 0, .int .i64 x.1, x.2.2, .slice A0 l0.length c0, .func (.func 44) #[] #[.pointer (some ⟨w.heap.size + 2, 0, none⟩)], .int .i64 x.1, x.2.2, undef, undef, undef, undef, undef, undef, undef, undef, undef, undef, undef, undef, undef, undef, undef, undef, undef, undef, undef, undef], defers := [] }) ?assign ?body ?call ?done
  case hI =>
    rintro xs W l o o' ⟨a, hp, hh, hlt⟩ h1 h2 hl _
    have := HSZ.out
    exact ⟨a, hp, hh.put o' (by omega) (by omega) hl, fun h => by simpa using hlt h⟩
  case hP =>
    rintro xs x W l o o' ⟨a, M, hx, hp, hh, hr, hM, hlt⟩ h1 h2 hl _
    have := HSZ.out
    exact ⟨a, M, hx, hp, hh.put o' (by omega) (by omega) hl, Kd.R_mono (Kd.R_step (Kd.R_bound hr) (fun k hk _ => World.putObj_heap_other (by have := hk.2.1; omega))) (fun _ hk => hk.1), hM, by simpa using hlt⟩
  case h0 =>
    intro o1 o2
    have hs := HSZ.out
    exact ⟨0, HPU.out, frame_Scan.grow HH0.out (below_alloc (below_alloc (Below.refl _ _) _) _) (by omega) (by simp; omega), fun h => absurd rfl h⟩
  case assign =>
    intro x W K hK
    gi_wp2
    exact hK
  case call =>
    intro Bk hBk hBs W1 hs1 hI1 hB1 hY
    have hs := HSZ.out
    rw [hs] at hBk hBs hs1 hY ⊢
    have hz := frame_Scan.all1 A0 c0 l0 w r1 r2 r3 HR.out HC.out HL.out HLEN.out Bk hBk hBs 8 W1 hs1 hI1 hB1 hY
    exact hz
  case body =>
    rintro xs ⟨z, p, v⟩ W ⟨a, M, hz, hpu, hh, hr, hM, hlt⟩ hlt2
    obtain rfl : z = (a : Int) := hz
    dsimp only at hpu hh hr
    obtain ⟨⟨u, hu, hS⟩, hf, hi, hb, hc⟩ := hh
    obtain ⟨Av, cv, rfl⟩ := Kd.R_slice hr
    have hcc := hc hlt
    have hfit := frame_Scan.fits hpu HLEN.out
    have hs := HSZ.out
    have hbM := Kd.R_base hr
    have huM : ∀ k, u.ownBlock = some k → w.heap.size + 6 ≤ k ∧ k < M := fun k hk => ⟨Kd.S_base hS k hk, (Kd.S_R hS).1 k hk⟩
    have c0' : W.cell? ⟨w.heap.size, 0, none⟩ = some u := by simp [World.cell?, hu]
    have h1 : IntKind.i64.wrap ((a : Int) + 4) = (a : Int) + 4 := IntWalk.i64_in _ (by omega)
    have h2 : IntKind.i64.wrap ((a : Int) + 4 + (p.length : Int)) = (a : Int) + 4 + (p.length : Int) := IntWalk.i64_in _ (by omega)
    have h3 : IntKind.i64.wrap ((a : Int) + 4 + (p.length : Int) + 4) = (a : Int) + 4 + (p.length : Int) + 4 := IntWalk.i64_in _ (by omega)
    have HR2 := Aside0.mk hr
    have HS2 := Aside0.mk hS
    have HU := Aside0.mk hu
    have HF := Aside0.mk hf
    have HI := Aside0.mk hi
    have HB := Aside0.mk hb
    have HCC := Aside0.mk hcc
    have HBM := Aside0.mk hbM
    have HUM := Aside0.mk huM
    have HFIT := Aside0.mk hfit
    have HPU2 := Aside0.mk hpu
    have HLT := Aside0.mk hlt
    have HM := Aside0.mk hM
    have HMW := Aside0.mk (show w.heap.size + 6 ≤ W.heap.size from by omega)
    clear hr hS hu hf hi hb hcc hbM huM hfit hpu hlt hM hc hs hlt2
    gi_wp2_with (first | (gi_at_builtin; refine Iter.S_append_in (Kd.slice 5 (Kd.int .u8)) (W := W) (w.heap.size + 6) rfl (.tmp 11) (.tmp 13) 30 23 (.slice none 0 0) 24 rfl Tryd.underlying30 frame_Scan.info23 rfl (by decide) (by omega) u (frame_Scan.Pl xs) p [.slice Av p.length cv] (fun _ => True) (fun k => some k = (Value.slice Av p.length cv).ownBlock) rfl rfl ?aP ?aO ?aF ?aH ?aB ?aL ?_; (case aP => exact Kd.M_row (Kd.R_mono (Kd.R_tight rfl (Kd.R_lower HR2.out HM.out)) (fun _ h_ => h_))); (case aO => exact fun k hk => ⟨trivial, fun hk2 => by have h5 := HBM.out k hk.symm; have h6 := HUM.out k hk2.symm; omega⟩); (case aF => exact fun _ _ => trivial); (case aH => exact Kd.S_mono HS2.out (fun k hk => ⟨trivial, fun hk2 => by have h5 := HBM.out k hk2.symm; omega⟩)); (case aB => exact HMW.out); (case aL => have h5 := HFIT.out.2; rw [List.length_append] at h5; omega); intro v1 w1 hS1 hg hat; have hne : some w.heap.size ≠ u.ownBlock := (fun e => by have h6 := HUM.out _ e.symm; omega); have hu1 : w1.heap[w.heap.size]? = some (.cells #[u] 30 (0, 0)) := (hg.block _ (blk_lt HU.out) hne).trans HU.out; have hf1 : w1.heap[w.heap.size + 1]? = some (.cells #[.int .i64 (a : Int)] 3 (0, 0)) := (hg.block _ (blk_lt HF.out) (fun e => by have h6 := HUM.out _ e.symm; omega)).trans HF.out; have c1 : w1.cell? ⟨w.heap.size, 0, none⟩ = some u := (by simp [World.cell?, hu1]); have c2 : w1.frozen? ⟨w.heap.size, 0, none⟩ = false := (by simp [World.frozen?, hu1]); have hf2 : (w1.setCell ⟨w.heap.size, 0, none⟩ v1).heap[w.heap.size + 1]? = some (.cells #[.int .i64 (a : Int)] 3 (0, 0)) := (Below.heap_setCell w1 ⟨w.heap.size, 0, none⟩ v1 _ (by simp)).trans hf1; have c3 : (w1.setCell ⟨w.heap.size, 0, none⟩ v1).cell? ⟨w.heap.size + 1, 0, none⟩ = some (.int .i64 (a : Int)) := (by simp [World.cell?, hf2]); have c4 : (w1.setCell ⟨w.heap.size, 0, none⟩ v1).frozen? ⟨w.heap.size + 1, 0, none⟩ = false := (by simp [World.frozen?, hf2]); have HS1 := Aside0.mk hS1; have HG := Aside0.mk hg; have HU1 := Aside0.mk hu1; have HF1 := Aside0.mk hf1; obtain ⟨Aw, cw, rfl⟩ := Kd.S_slice hS1; simp only [List.length_append, List.length_singleton] at c3 c4; clear hS1 hg hat hne hu1 hf1 hf2))
    have hs := HSZ.out
    have hS1 := HS1.out
    have hg := HG.out
    have hw1 := hg.size
    have far : ∀ k o, w.heap.size + 2 ≤ k → k ≤ w.heap.size + 5 → W.heap[k]? = some o → ((w1.setCell ⟨w.heap.size, 0, none⟩ (.slice Aw ((frame_Scan.Pl xs).length + 1) cw)).setCell ⟨w.heap.size + 1, 0, none⟩ (.int .i64 ((a : Int) + 4 + (p.length : Int) + 4))).heap[k]? = some o := by
      intro k o hk1 hk2 ho
      refine (Below.heap_setCell _ _ _ _ (by simp; omega)).trans ((Below.heap_setCell _ _ _ _ (by simp; omega)).trans ((hg.block k (blk_lt ho) (fun e => ?_)).trans ho))
      have h6 := HUM.out _ e.symm
      omega
    refine ⟨fun k o hk1 hk2 ho => far k o (by omega) (by omega) ho, a + 4 + p.length + 4, ?_, ⟨⟨_, (Below.heap_setCell _ _ _ _ (by simp)).trans (blk_set HU1.out 0 _), ?_⟩, ?_, far _ _ (Nat.le_refl _) (by omega) HI.out, ?_, fun _ => far _ _ (by omega) (Nat.le_refl _) HCC.out⟩, fun _ => ?_⟩
    · rw [show frame_Scan.Pl (xs ++ [((a : Int), p, Value.slice Av p.length cv)]) = frame_Scan.Pl xs ++ [p] from by simp [frame_Scan.Pl]]
      exact HPU2.out
    · rw [show frame_Scan.Pl (xs ++ [((a : Int), p, Value.slice Av p.length cv)]) = frame_Scan.Pl xs ++ [p] from by simp [frame_Scan.Pl]]
      rw [List.length_append, List.length_singleton] at hS1
      exact Kd.S_mono (Kd.S_far (Kd.S_far (Kd.S_bound hS1) (fun k hk => by have := hk.2.1; simp; omega) _) (fun k hk => by have := hk.2.1; simp; omega) _) (fun _ _ => trivial)
    · have h7 := blk_set ((Below.heap_setCell w1 ⟨w.heap.size, 0, none⟩ (.slice Aw ((frame_Scan.Pl xs).length + 1) cw) _ (by simp)).trans HF1.out) 0 (.int .i64 ((a : Int) + 4 + (p.length : Int) + 4))
      rw [show (((a + 4 + p.length + 4 : Nat)) : Int) = (a : Int) + 4 + (p.length : Int) + 4 from by omega]
      exact h7
    · exact Below.setCell (Below.setCell (HB.out.grown hg (by have := HMW.out; omega) (fun k e => by have h6 := HUM.out k e; omega)) (Nat.le_refl _) _) (by simp) _
    · have := HLT.out
      simp only [World.setCell, Array.size_modify]
      omega
  case done =>
    rintro xs W hS ⟨a, hpu, hh, hlt⟩ hK
    obtain ⟨hf, hr2⟩ := frame_Scan.done_ hpu hS
    obtain ⟨⟨u, hu, hSS⟩, hfi, hi, hb, hc⟩ := hh
    have hdec := frame_Decode.calls A0 c0 l0 (a : Int) [] (a : Int) r3 W (Kd.C_below HR.out hb) HC.out (laid_at HL.out hb) hf
    have hs := HSZ.out
    rw [hs] at hK
    have c1 : W.cell? ⟨w.heap.size, 0, none⟩ = some u := by simp [World.cell?, hu]
    have c2 : W.cell? ⟨w.heap.size + 1, 0, none⟩ = some (.int .i64 (a : Int)) := by simp [World.cell?, hfi]
    have HK := Aside0.mk hK
    have HU := Aside0.mk hu
    have HF := Aside0.mk hfi
    have HB := Aside0.mk hb
    have HS := Aside0.mk hSS
    have HE := Aside0.mk hS
    have HR2 := Aside0.mk hr2
    clear hf hK hu hfi hb hSS hS hr2 hi hc hpu hlt
    obtain ⟨Au, cu, rfl⟩ := Kd.S_slice HS.out
    gi_wp2_with (first | (refine ⟨trivial, ?_⟩; refine ((callsIn_wide (n := 8)).2 hdec).mono ?_; clear hdec; rintro e w2 ⟨v2, rfl, ho2, hb2⟩; have hu2 := (hb2.block _ (blk_lt HU.out)).trans HU.out; have hf2 := (hb2.block _ (blk_lt HF.out)).trans HF.out; have c3 : w2.cell? ⟨w.heap.size, 0, none⟩ = some (.slice Au (frame_Scan.Pl xs).length cu) := (by simp [World.cell?, hu2]); have c4 : w2.cell? ⟨w.heap.size + 1, 0, none⟩ = some (.int .i64 (a : Int)) := (by simp [World.cell?, hf2]); have c5 : w2.frozen? ⟨w.heap.size, 0, none⟩ = false := (by simp [World.frozen?, hu2]); have c6 : w2.frozen? ⟨w.heap.size + 1, 0, none⟩ = false := (by simp [World.frozen?, hf2]); have FIN := Aside0.mk (show frame_Scan.Fin w (.slice Au (frame_Scan.Pl xs).length cu) (a : Int) (frame_Scan.Pl xs) w2 from ⟨hu2, hf2, Kd.S_below HS.out hb2, (hb2.block _ (blk_lt HK.out)).trans HK.out, HB.out.trans (hb2.mono HB.out.size)⟩); clear ho2 hb2 hu2 hf2 c3 c4 c5 c6))
    refine wpIn_wide.2 ?_
    clear c1 c2
    go_region_held3 (fun w' => frame_Scan.Fin w (.slice Au (frame_Scan.Pl xs).length cu) (a : Int) (frame_Scan.Pl xs) w' ∧ w'.cell? ⟨w.heap.size, 0, none⟩ = some (.slice Au (frame_Scan.Pl xs).length cu) ∧ w'.cell? ⟨w.heap.size + 1, 0, none⟩ = some (.int .i64 (a : Int)) ∧ w'.frozen? ⟨w.heap.size, 0, none⟩ = false ∧ w'.frozen? ⟨w.heap.size + 1, 0, none⟩ = false) (first | exact (FIN.out.drew).all | exact frame_Scan.FinS.set0 (by assumption) | exact frame_Scan.FinS.set1 (by assumption) | assumption) (fail)
    gi_wp2
    have hfin := FIN.out.set0.set1.drew
    refine ⟨by simp, .inl ⟨_, _, rfl, run_takeDeferred hfin.mark, ?_⟩⟩
    have hp := hfin.put3 (.deferred none)
    have k0 := hp.c0
    have k1 := hp.c1
    generalize (((w2.setCell ⟨w.heap.size, 0, none⟩ (Value.slice Au (frame_Scan.Pl xs).length cu)).setCell ⟨w.heap.size + 1, 0, none⟩ (Value.int IntKind.i64 (a : Int))).drew.putObj (w.heap.size + 3) (Obj.deferred none)) = WF at hp k0 k1 ⊢
    refine ⟨.tuple #[.slice Au (frame_Scan.Pl xs).length cu, .int .i64 (a : Int), .int .i64 r3], ?_, _, by rw [HR2.out], ?_, hp.below⟩
    · simp [results, Tryd.results28, asAddr, loadVar, k0, k1, go_sem]
    · rw [HE.out]; exact Kd.S_lower hp.shelf (by omega)
end

end Go.Proofs.YtgfjmpnlkjocaaaDoor.J
