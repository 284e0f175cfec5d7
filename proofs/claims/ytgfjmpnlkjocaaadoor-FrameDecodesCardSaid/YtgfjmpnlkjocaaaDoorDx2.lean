-- Written by stubprint.py (wip/) of this work, over the kit's print.py; parts by hand.
import Derived.Test.YtgfjmpnlkjocaaaDoorDx0
import Derived.Test.YtgfjmpnlkjocaaaDoorDx1
namespace Go.Proofs.YtgfjmpnlkjocaaaDoor.D
open Go.RowKit Go.Proofs.YtgfjmpnlkjocaaaDoorW.PrintWords Go.Proofs.YtgfjmpnlkjocaaaDoorW.PrintLast Go.Proofs.YtgfjmpnlkjocaaaDoorW.PrintMore
attribute [local go_sem] max2_int min2_int max_two min_two max_three min_three max_four min_four   -- for this text's walks alone
set_option linter.unusedVariables false
set_option linter.unusedSimpArgs false

/-! ### frame_Decode: function 26 (by hand) -/
/-- make with nothing in it and a capacity that is a 32-bit number. -/
theorem frame_Decode.info8 : (Tryd.prog.info? 5).map (fun i => (i.zero, i.size, i.bytes)) = some (some (.int .u8 0), 1, 1) := by kernel_rfl
theorem frame_Decode.make32 (m : Int) (h0 : 0 ≤ m) (hn : m ≤ 4194304) :
    ∀ W : World, (Instr.makeSlice 23 (.int .i64 0) (.int .u32 m)).run Tryd.prog W = .ok (.slice (some ⟨W.heap.size, 0, none⟩) 0 m.toNat) (W.alloc (.cells (madeCells #[.int .u8 0] m.toNat) 5)) := by
  intro W
  obtain ⟨i0, hi, hzz⟩ := Option.map_eq_some_iff.1 frame_Decode.info8
  simp only [Prod.mk.injEq] at hzz
  obtain ⟨hz0, hz1, hz2⟩ := hzz
  rw [run_make W 23 5 i0 _ Tryd.underlying23 hi hz0 .i64 .u32 0 m (by omega) h0 (by rw [hz2]; omega) (by omega), hz1, Nat.mul_one]
  rfl
theorem frame_Decode.gen_world {P : Program} {c : Code} {Q : Exit → Act → World → Prop} {a : Act} {W : World} (F : World → Prop) (h0 : F W) (h : ∀ W2, F W2 → c.wp P Q a W2) : c.wp P Q a W := h W h0
/-- What stands at a place of a file: the payload, the tail, whether it is whole, the place behind. -/
def frame_Decode.nx (l : List Int) (a : Nat) : Option (List Int × Int × Bool × Int) :=
  if (l.drop a).length = 0 then some ([], 0, false, a)
  else if (l.drop a).length < 4 then some ([], 1, false, a)
  else (frame_word.f (l.drop a)).bind fun n =>
    if 4194304 < n then some ([], 2, false, a)
    else if n < 0 then none
    else if ((l.drop a).length : Int) < 4 + n + 4 then some ([], 1, false, a)
    else (frame_Sum.f ((l.drop a).take (4 + n).toNat)).bind fun s =>
      (frame_word.f ((l.drop a).drop (4 + n).toNat)).bind fun z =>
        if s = z then some (((l.drop a).take (4 + n).toNat).drop 4, 0, true, a + (4 + n + 4)) else some ([], 3, false, a)
def frame_Decode.f (l0 : List Int) (a1 : Int) : Option (List Int × Int × Int) :=
  if a1 < 0 ∨ (l0.length : Int) < a1 then some ([], a1, 1) else (frame_Decode.nx l0 a1.toNat).bind fun q => some (q.1, q.2.2.2, q.2.1)
set_option maxRecDepth 100000 in
set_option maxHeartbeats 4000000 in
theorem frame_Decode.next (g : Nat) (A0 : Option Addr) (c0 : Nat) (l0 : List Int) (a : Nat) (r1 : List Int) (r2 : Int) (r3 : Bool) (r4 : Int) (w : World)
    (hcur : w.heap[g]? = some (.cells #[.slice A0 l0.length c0, .int .i64 (a : Int)] 58 (0, 0))) (hr0 : Kd.C (Kd.int .u8) w A0 l0.length l0) (hc0 : l0.length ≤ c0) (ha : a ≤ l0.length) (hA : ∀ ad, A0 = some ad → 0 < l0.length → ad.block ≠ g) (hL : Laid w) (h : frame_Decode.nx l0 a = some (r1, r2, r3, r4)) :
    Calls Tryd.prog 41 #[.pointer (some ⟨g, 0, none⟩)] w fun e w' => ∃ v0_ : Value, e = .returned (.tuple #[v0_, .int .i64 r2, .bool r3]) ∧ Kd.R (Kd.int .u8) 5 w' w.heap.size (fun _ => True) v0_ r1 ∧
      w'.heap[g]? = some (.cells #[.slice A0 l0.length c0, .int .i64 r4] 58 (0, 0)) ∧ KeepBut w w' g none ∧ (∀ B, B ≤ g → Below B w w') := by
  have HL := Aside0.mk hL
  have hmax := Kd.C_max hr0
  have e0 : w.cell? ⟨g, 0, none⟩ = some (.slice A0 l0.length c0) := by simp [World.cell?, hcur]
  have e1 : w.cell? ⟨g, 1, none⟩ = some (.int .i64 (a : Int)) := by simp [World.cell?, hcur]
  have e2 : w.frozen? ⟨g, 1, none⟩ = false := by simp [World.frozen?, hcur]
  have hg := (Array.getElem?_eq_some_iff.1 hcur).1
  have HCUR := Aside0.mk hcur
  have HNE := Aside0.mk hA
  have HR0 := Aside0.mk hr0
  have HG := Aside0.mk hg
  obtain ⟨i0, hi, _, hsz, _⟩ := info_parts frame_Decode.info8
  obtain ⟨A1, hcut, hA1, hC1⟩ := print_drop_of (P := Tryd.prog) (Value.int .u8) 0 23 5 .i64 Tryd.underlying23 hi hsz A0 c0 l0 (a : Int) (by omega) (by omega) hc0
  rw [Int.toNat_natCast] at hcut hA1 hC1
  have HR1 := Aside0.mk (Kd.C_of_reads (h1 := fun _ => rfl) (hA1 _ (Kd.reads_of_C hr0)))
  have HA1 := Aside0.mk hA1
  have HC1 := Aside0.mk hC1
  clear hA1 hC1
  unfold frame_Decode.nx at h
  have hll : (l0.drop a).length = l0.length - a := List.length_drop
  generalize l0.drop a = left at *
  have HLL := Aside0.mk hll
  have HMX := Aside0.mk hmax
  have HA := Aside0.mk ha
  have hc0a : left.length ≤ c0 - a := HC1.out
  have HCA := Aside0.mk hc0a
  generalize hca : c0 - a = c1 at *
  clear hr0 hcur hA hg hca hll hmax hL hc0a
  by_cases c2 : left.length = 0
  · rw [if_pos c2] at h
    have d1 : ((left.length : Int) == 0) = true := by rw [c2]; rfl
    clear ha
    simp only [Option.some.injEq, Prod.mk.injEq] at h
    obtain ⟨rfl, rfl, rfl, rfl⟩ := h
    go_enter Tryd.func41, Tryd.ntmps41
    go_wp2
    repeat (go_quiet (fail); try go_wp2)
    go_ret3
    refine ⟨_, rfl, Kd.R_nil _ _ _ _ _, ?_, ?_, ?_⟩
    · first | exact HCUR.out | exact blk_drewN HCUR.out _
    · refine KeepBut.of_below ?_ _ _
      repeat (first | exact Below.refl _ _ | apply below_drew1 | apply pw_below_drewN)
    · intro B hB
      repeat (first | exact Below.refl _ _ | apply below_drew1 | apply pw_below_drewN)
  rw [if_neg c2] at h
  have d1 : ((left.length : Int) == 0) = false := beq_eq_false_iff_ne.mpr (by omega)
  by_cases c4 : left.length < 4
  · rw [if_pos c4] at h
    have d2 : decide ((left.length : Int) < 4) = true := decide_eq_true (by omega)
    clear ha
    simp only [Option.some.injEq, Prod.mk.injEq] at h
    obtain ⟨rfl, rfl, rfl, rfl⟩ := h
    go_enter Tryd.func41, Tryd.ntmps41
    go_wp2
    repeat (go_quiet (fail); try go_wp2)
    go_ret3
    refine ⟨_, rfl, Kd.R_nil _ _ _ _ _, ?_, ?_, ?_⟩
    · first | exact HCUR.out | exact blk_drewN HCUR.out _
    · refine KeepBut.of_below ?_ _ _
      repeat (first | exact Below.refl _ _ | apply below_drew1 | apply pw_below_drewN)
    · intro B hB
      repeat (first | exact Below.refl _ _ | apply below_drew1 | apply pw_below_drewN)
  rw [if_neg c4] at h
  have d2 : decide ((left.length : Int) < 4) = false := decide_eq_false (by omega)
  obtain ⟨n, en, h⟩ := Option.bind_eq_some_iff.mp h
  have EN := Aside0.mk en
  clear en
  by_cases c5 : 4194304 < n
  · rw [if_pos c5] at h
    have d3 : decide (4194304 < n) = true := decide_eq_true c5
    clear ha
    simp only [Option.some.injEq, Prod.mk.injEq] at h
    obtain ⟨rfl, rfl, rfl, rfl⟩ := h
    go_enter Tryd.func41, Tryd.ntmps41
    go_wp2_with (first | (go_at_call 48; (with_reducible refine (frame_word.calls _ _ left n _ ?side1 ?side2 EN.out).mono ?_); (case side1 => repeat (first | exact HR1.out | (with_reducible refine Kd.C_alloc ?_ _) | (with_reducible refine Kd.C_drewN ?_ _) | (with_reducible refine Kd.C_drew ?_))); (case side2 => exact HC1.out); rintro e w' ⟨rfl, ⟨nd, rfl⟩⟩; (try first | exact ⟨rfl, _, World.drewN_drewN _ _ _⟩ | exact ⟨rfl, _, Eq.trans (World.drewN_drewN _ _ _) (congrArg (World.drewN _) (Nat.add_assoc _ _ _))⟩)))
    repeat (go_quiet (first | (go_at_call 48; (with_reducible refine (frame_word.calls _ _ left n _ ?side1 ?side2 EN.out).mono ?_); (case side1 => repeat (first | exact HR1.out | (with_reducible refine Kd.C_alloc ?_ _) | (with_reducible refine Kd.C_drewN ?_ _) | (with_reducible refine Kd.C_drew ?_))); (case side2 => exact HC1.out); rintro e w' ⟨rfl, ⟨nd, rfl⟩⟩; (try first | exact ⟨rfl, _, World.drewN_drewN _ _ _⟩ | exact ⟨rfl, _, Eq.trans (World.drewN_drewN _ _ _) (congrArg (World.drewN _) (Nat.add_assoc _ _ _))⟩))); try go_wp2_with (first | (go_at_call 48; (with_reducible refine (frame_word.calls _ _ left n _ ?side1 ?side2 EN.out).mono ?_); (case side1 => repeat (first | exact HR1.out | (with_reducible refine Kd.C_alloc ?_ _) | (with_reducible refine Kd.C_drewN ?_ _) | (with_reducible refine Kd.C_drew ?_))); (case side2 => exact HC1.out); rintro e w' ⟨rfl, ⟨nd, rfl⟩⟩; (try first | exact ⟨rfl, _, World.drewN_drewN _ _ _⟩ | exact ⟨rfl, _, Eq.trans (World.drewN_drewN _ _ _) (congrArg (World.drewN _) (Nat.add_assoc _ _ _))⟩))))
    go_ret3
    refine ⟨_, rfl, Kd.R_nil _ _ _ _ _, ?_, ?_, ?_⟩
    · first | exact HCUR.out | exact blk_drewN HCUR.out _
    · refine KeepBut.of_below ?_ _ _
      repeat (first | exact Below.refl _ _ | apply below_drew1 | apply pw_below_drewN)
    · intro B hB
      repeat (first | exact Below.refl _ _ | apply below_drew1 | apply pw_below_drewN)
  rw [if_neg c5] at h
  have d3 : decide (4194304 < n) = false := decide_eq_false c5
  by_cases c6 : n < 0
  · rw [if_pos c6] at h; cases h
  rw [if_neg c6] at h
  have h0 : IntKind.i64.wrap n = n := IntWalk.i64_in _ (by omega)
  have h0' : wrap64 n = n := by unfold wrap64; omega
  have h1 : IntKind.i64.wrap (4 + n) = 4 + n := IntWalk.i64_in _ (by omega)
  have h2 : IntKind.i64.wrap (4 + n + 4) = 4 + n + 4 := IntWalk.i64_in _ (by omega)
  have h1' : wrap64 (4 + n) = 4 + n := by unfold wrap64; omega
  have h2' : wrap64 (4 + n + 4) = 4 + n + 4 := by unfold wrap64; omega
  by_cases c7 : (left.length : Int) < 4 + n + 4
  · rw [if_pos c7] at h
    have d4 : decide ((left.length : Int) < 4 + n + 4) = true := decide_eq_true c7
    clear ha
    simp only [Option.some.injEq, Prod.mk.injEq] at h
    obtain ⟨rfl, rfl, rfl, rfl⟩ := h
    go_enter Tryd.func41, Tryd.ntmps41
    go_wp2_with (first | (go_at_call 48; (with_reducible refine (frame_word.calls _ _ left n _ ?side1 ?side2 EN.out).mono ?_); (case side1 => repeat (first | exact HR1.out | (with_reducible refine Kd.C_alloc ?_ _) | (with_reducible refine Kd.C_drewN ?_ _) | (with_reducible refine Kd.C_drew ?_))); (case side2 => exact HC1.out); rintro e w' ⟨rfl, ⟨nd, rfl⟩⟩; (try first | exact ⟨rfl, _, World.drewN_drewN _ _ _⟩ | exact ⟨rfl, _, Eq.trans (World.drewN_drewN _ _ _) (congrArg (World.drewN _) (Nat.add_assoc _ _ _))⟩)))
    repeat (go_quiet (first | (go_at_call 48; (with_reducible refine (frame_word.calls _ _ left n _ ?side1 ?side2 EN.out).mono ?_); (case side1 => repeat (first | exact HR1.out | (with_reducible refine Kd.C_alloc ?_ _) | (with_reducible refine Kd.C_drewN ?_ _) | (with_reducible refine Kd.C_drew ?_))); (case side2 => exact HC1.out); rintro e w' ⟨rfl, ⟨nd, rfl⟩⟩; (try first | exact ⟨rfl, _, World.drewN_drewN _ _ _⟩ | exact ⟨rfl, _, Eq.trans (World.drewN_drewN _ _ _) (congrArg (World.drewN _) (Nat.add_assoc _ _ _))⟩))); try go_wp2_with (first | (go_at_call 48; (with_reducible refine (frame_word.calls _ _ left n _ ?side1 ?side2 EN.out).mono ?_); (case side1 => repeat (first | exact HR1.out | (with_reducible refine Kd.C_alloc ?_ _) | (with_reducible refine Kd.C_drewN ?_ _) | (with_reducible refine Kd.C_drew ?_))); (case side2 => exact HC1.out); rintro e w' ⟨rfl, ⟨nd, rfl⟩⟩; (try first | exact ⟨rfl, _, World.drewN_drewN _ _ _⟩ | exact ⟨rfl, _, Eq.trans (World.drewN_drewN _ _ _) (congrArg (World.drewN _) (Nat.add_assoc _ _ _))⟩))))
    go_ret3
    refine ⟨_, rfl, Kd.R_nil _ _ _ _ _, ?_, ?_, ?_⟩
    · first | exact HCUR.out | exact blk_drewN HCUR.out _
    · refine KeepBut.of_below ?_ _ _
      repeat (first | exact Below.refl _ _ | apply below_drew1 | apply pw_below_drewN)
    · intro B hB
      repeat (first | exact Below.refl _ _ | apply below_drew1 | apply pw_below_drewN)
  rw [if_neg c7] at h
  have d4 : decide ((left.length : Int) < 4 + n + 4) = false := decide_eq_false c7
  obtain ⟨s, es, h⟩ := Option.bind_eq_some_iff.mp h
  obtain ⟨z, ez, h⟩ := Option.bind_eq_some_iff.mp h
  obtain ⟨hcutT, hT, hCT⟩ := print_take_of (P := Tryd.prog) (Value.int .u8) 0 23 5 .i64 Tryd.underlying23 hi hsz A1 c1 left (4 + n) (by omega) (by omega) HCA.out
  have hr2 := Kd.C_of_reads (h1 := fun _ => rfl) (hT _ (Kd.reads_of_C HR1.out))
  obtain ⟨A3, hcutD, hD, hCD⟩ := print_drop_of (P := Tryd.prog) (Value.int .u8) 0 23 5 .i64 Tryd.underlying23 hi hsz A1 c1 left (4 + n) (by omega) (by omega) HCA.out
  have hr3 := Kd.C_of_reads (h1 := fun _ => rfl) (hD _ (Kd.reads_of_C HR1.out))
  obtain ⟨y2, hy2⟩ : ∃ y, y = left.take (4 + n).toNat := ⟨_, rfl⟩
  obtain ⟨y3, hy3⟩ : ∃ y, y = left.drop (4 + n).toNat := ⟨_, rfl⟩
  rw [← hy2] at hcutT hr2 hCT es
  rw [← hy3] at hcutD hr3 hCD ez
  have HR2 := Aside0.mk hr2
  have HC2 := Aside0.mk hCT
  have HR3 := Aside0.mk hr3
  have HC3 := Aside0.mk hCD
  have ES := Aside0.mk es
  have EZ := Aside0.mk ez
  generalize hcd : c1 - (4 + n).toNat = c3 at hcutD HC3
  have HY2 := Aside0.mk hy2
  clear hT hCT hD hCD hr2 hr3 es ez hcd hy3 hy2
  by_cases c8 : s = z
  · rw [if_pos c8] at h
    have d5 : (s == z) = true := beq_iff_eq.mpr c8
    have d6 : (s != z) = false := bne_eq_false_iff_eq.mpr c8
    obtain ⟨A4, hcutM, hM, hCM⟩ := print_mid_of (P := Tryd.prog) (Value.int .u8) 0 23 5 .i64 .i64 Tryd.underlying23 hi hsz A1 c1 left 4 (4 + n) (by omega) (by omega) (by omega) HCA.out
    have hmk := frame_Decode.make32 n (by omega) (by omega)
    have hll := HLL.out
    have hmax := HMX.out
    have h3 : IntKind.i64.wrap ((a : Int) + (4 + n + 4)) = a + (4 + n + 4) := IntWalk.i64_in _ (by omega)
    have h3' : wrap64 ((a : Int) + (4 + n + 4)) = a + (4 + n + 4) := by unfold wrap64; omega
    have HN := Aside0.mk (show 0 ≤ n ∧ n ≤ 4194304 ∧ 4 + n + 4 ≤ (left.length : Int) from by omega)
    have HM := Aside0.mk hM
    clear ha c2 c4 c5 c6 c7 c8 hM hCM hll hmax
    simp only [Option.some.injEq, Prod.mk.injEq] at h
    obtain ⟨rfl, rfl, rfl, rfl⟩ := h
    go_enter Tryd.func41, Tryd.ntmps41
    go_wp2_with (first | (go_at_call 14; (with_reducible refine (frame_Sum.calls _ _ y2 s _ ?side1 ?side2 ?side3 ES.out).mono ?_); (case side1 => repeat (first | exact HR2.out | (with_reducible refine Kd.C_alloc ?_ _) | (with_reducible refine Kd.C_drewN ?_ _) | (with_reducible refine Kd.C_drew ?_))); (case side2 => exact HC2.out); (case side3 => first | exact HL.out | exact laid_at HL.out (pw_below_drewN (Below.refl _ _) _) | exact laid_at HL.out (by repeat (first | exact Below.refl _ _ | apply below_drew1 | apply pw_below_drewN))); rintro e w' ⟨rfl, ⟨nd, rfl⟩⟩; (try first | exact ⟨rfl, _, World.drewN_drewN _ _ _⟩ | exact ⟨rfl, _, Eq.trans (World.drewN_drewN _ _ _) (congrArg (World.drewN _) (Nat.add_assoc _ _ _))⟩)) | (go_at_call 48; (with_reducible refine (frame_word.calls _ _ y3 z _ ?side1 ?side2 EZ.out).mono ?_); (case side1 => repeat (first | exact HR3.out | (with_reducible refine Kd.C_alloc ?_ _) | (with_reducible refine Kd.C_drewN ?_ _) | (with_reducible refine Kd.C_drew ?_))); (case side2 => exact HC3.out); rintro e w' ⟨rfl, ⟨nd, rfl⟩⟩; (try first | exact ⟨rfl, _, World.drewN_drewN _ _ _⟩ | exact ⟨rfl, _, Eq.trans (World.drewN_drewN _ _ _) (congrArg (World.drewN _) (Nat.add_assoc _ _ _))⟩)) | (go_at_call 48; (with_reducible refine (frame_word.calls _ _ left n _ ?side1 ?side2 EN.out).mono ?_); (case side1 => repeat (first | exact HR1.out | (with_reducible refine Kd.C_alloc ?_ _) | (with_reducible refine Kd.C_drewN ?_ _) | (with_reducible refine Kd.C_drew ?_))); (case side2 => exact HC1.out); rintro e w' ⟨rfl, ⟨nd, rfl⟩⟩; (try first | exact ⟨rfl, _, World.drewN_drewN _ _ _⟩ | exact ⟨rfl, _, Eq.trans (World.drewN_drewN _ _ _) (congrArg (World.drewN _) (Nat.add_assoc _ _ _))⟩)))
    repeat (go_quiet (first | (go_at_call 14; (with_reducible refine (frame_Sum.calls _ _ y2 s _ ?side1 ?side2 ?side3 ES.out).mono ?_); (case side1 => repeat (first | exact HR2.out | (with_reducible refine Kd.C_alloc ?_ _) | (with_reducible refine Kd.C_drewN ?_ _) | (with_reducible refine Kd.C_drew ?_))); (case side2 => exact HC2.out); (case side3 => first | exact HL.out | exact laid_at HL.out (pw_below_drewN (Below.refl _ _) _) | exact laid_at HL.out (by repeat (first | exact Below.refl _ _ | apply below_drew1 | apply pw_below_drewN))); rintro e w' ⟨rfl, ⟨nd, rfl⟩⟩; (try first | exact ⟨rfl, _, World.drewN_drewN _ _ _⟩ | exact ⟨rfl, _, Eq.trans (World.drewN_drewN _ _ _) (congrArg (World.drewN _) (Nat.add_assoc _ _ _))⟩)) | (go_at_call 48; (with_reducible refine (frame_word.calls _ _ y3 z _ ?side1 ?side2 EZ.out).mono ?_); (case side1 => repeat (first | exact HR3.out | (with_reducible refine Kd.C_alloc ?_ _) | (with_reducible refine Kd.C_drewN ?_ _) | (with_reducible refine Kd.C_drew ?_))); (case side2 => exact HC3.out); rintro e w' ⟨rfl, ⟨nd, rfl⟩⟩; (try first | exact ⟨rfl, _, World.drewN_drewN _ _ _⟩ | exact ⟨rfl, _, Eq.trans (World.drewN_drewN _ _ _) (congrArg (World.drewN _) (Nat.add_assoc _ _ _))⟩)) | (go_at_call 48; (with_reducible refine (frame_word.calls _ _ left n _ ?side1 ?side2 EN.out).mono ?_); (case side1 => repeat (first | exact HR1.out | (with_reducible refine Kd.C_alloc ?_ _) | (with_reducible refine Kd.C_drewN ?_ _) | (with_reducible refine Kd.C_drew ?_))); (case side2 => exact HC1.out); rintro e w' ⟨rfl, ⟨nd, rfl⟩⟩; (try first | exact ⟨rfl, _, World.drewN_drewN _ _ _⟩ | exact ⟨rfl, _, Eq.trans (World.drewN_drewN _ _ _) (congrArg (World.drewN _) (Nat.add_assoc _ _ _))⟩))); try go_wp2_with (first | (go_at_call 14; (with_reducible refine (frame_Sum.calls _ _ y2 s _ ?side1 ?side2 ?side3 ES.out).mono ?_); (case side1 => repeat (first | exact HR2.out | (with_reducible refine Kd.C_alloc ?_ _) | (with_reducible refine Kd.C_drewN ?_ _) | (with_reducible refine Kd.C_drew ?_))); (case side2 => exact HC2.out); (case side3 => first | exact HL.out | exact laid_at HL.out (pw_below_drewN (Below.refl _ _) _) | exact laid_at HL.out (by repeat (first | exact Below.refl _ _ | apply below_drew1 | apply pw_below_drewN))); rintro e w' ⟨rfl, ⟨nd, rfl⟩⟩; (try first | exact ⟨rfl, _, World.drewN_drewN _ _ _⟩ | exact ⟨rfl, _, Eq.trans (World.drewN_drewN _ _ _) (congrArg (World.drewN _) (Nat.add_assoc _ _ _))⟩)) | (go_at_call 48; (with_reducible refine (frame_word.calls _ _ y3 z _ ?side1 ?side2 EZ.out).mono ?_); (case side1 => repeat (first | exact HR3.out | (with_reducible refine Kd.C_alloc ?_ _) | (with_reducible refine Kd.C_drewN ?_ _) | (with_reducible refine Kd.C_drew ?_))); (case side2 => exact HC3.out); rintro e w' ⟨rfl, ⟨nd, rfl⟩⟩; (try first | exact ⟨rfl, _, World.drewN_drewN _ _ _⟩ | exact ⟨rfl, _, Eq.trans (World.drewN_drewN _ _ _) (congrArg (World.drewN _) (Nat.add_assoc _ _ _))⟩)) | (go_at_call 48; (with_reducible refine (frame_word.calls _ _ left n _ ?side1 ?side2 EN.out).mono ?_); (case side1 => repeat (first | exact HR1.out | (with_reducible refine Kd.C_alloc ?_ _) | (with_reducible refine Kd.C_drewN ?_ _) | (with_reducible refine Kd.C_drew ?_))); (case side2 => exact HC1.out); rintro e w' ⟨rfl, ⟨nd, rfl⟩⟩; (try first | exact ⟨rfl, _, World.drewN_drewN _ _ _⟩ | exact ⟨rfl, _, Eq.trans (World.drewN_drewN _ _ _) (congrArg (World.drewN _) (Nat.add_assoc _ _ _))⟩))))
    refine frame_Decode.gen_world (fun W2 => KeepBut w W2 g none ∧ (∀ B, B ≤ g → Below B w W2) ∧ W2.heap[g]? = some (.cells #[.slice A0 l0.length c0, .int .i64 ((a : Int) + (4 + n + 4))] 58 (0, 0)) ∧ W2.heap.size = w.heap.size) ?_ ?_
    · refine ⟨KeepBut.set_ (KeepBut.of_below (pw_below_drewN (Below.refl _ _) _) _ _) 1 _, fun B hB => Below.setCell (pw_below_drewN (Below.refl _ _) _) hB _, ?_, ?_⟩
      · exact blk_set (blk_drewN HCUR.out _) 1 _
      · simp [World.setCell, World.drewN]
    rintro W2 ⟨hk, hb, hc, hs⟩
    have HRL : Kd.C (Kd.int .u8) W2 A0 l0.length l0 := Kd.C_keep 0 HR0.out hk HNE.out
    have hr4 := HM.out W2 (HA1.out W2 (Kd.reads_of_C HRL))
    rw [show (4 : Int).toNat = 4 from rfl] at hr4 hcutM
    rw [← HY2.out] at hr4 hcutM
    obtain ⟨y4, hy4⟩ : ∃ y, y = y2.drop 4 := ⟨_, rfl⟩
    rw [← hy4] at hr4 hcutM
    have HR4 := Aside0.mk (Kd.C_of_reads (h1 := fun _ => rfl) hr4)
    have hy4l : y4.length ≤ 4194304 := by have := HN.out; rw [hy4, HY2.out, List.length_drop, List.length_take]; omega
    have HY4 := Aside0.mk hy4l
    have HY5 := Aside0.mk hy4
    have HK := Aside0.mk hk
    have HB := Aside0.mk hb
    have HC := Aside0.mk hc
    have HS := Aside0.mk hs
    generalize hcm : c1 - 4 = c4 at hcutM
    clear hk hb hc hs hr4 hy4 hy4l HRL hcut hcutT hcutD hcm e0 e1 e2
    go_region_held3 (fun _ => True) (trivial) (first | (refine Kd.R_append_rows_step (Kd.int .u8) (w0 := W2) W2.heap.size (by rfl) (.tmp 54) (.tmp 57) 23 5 (.int .u8 0) 1 (by rfl) Tryd.underlying23 frame_Decode.info8 rfl (by decide) (by omega) (.slice (some ⟨W2.heap.size, 0, none⟩) 0 n.toNat) [] y4 _ _ _ (fun _ => True) (fun _ => False) (by rfl) (by rfl) ?aO ?aR (fun _ _ h => h) (fun _ h => h.elim) (fun _ _ => trivial) ?aB ?aS ?aL ?_; (case aO => exact Hand.R_of_own (Hand.own_made0 W2.drew W2.heap.size 5 .u8 n.toNat (Nat.le_refl _) (by have := HN.out; omega))); (case aR => first | exact Kd.C_alloc (Kd.C_drew HR4.out) _ | exact Kd.C_alloc HR4.out _); (case aB => first | exact below_alloc (below_drew1 (Below.refl _ _)) _ | exact below_alloc (Below.refl _ _) _); (case aS => simp); (case aL => have := HY4.out; simp; omega); intro v2 w2 ho hb hg hat; have HO2 := Aside0.mk ho; have HB2 := Aside0.mk hb; clear ho hb hg hat))
    go_wp2
    go_ret3
    have hs := HS.out
    refine ⟨_, rfl, ?_, ?_, ?_, ?_⟩
    · rw [← hs, ← HY2.out, ← HY5.out]; exact HO2.out
    · exact (HB2.out.block g (by rw [hs]; exact HG.out)).trans HC.out
    · exact HK.out.trans (KeepBut.of_below HB2.out g none) (.inl rfl)
    · exact fun B hB => (HB.out B hB).trans (HB2.out.mono (by rw [hs]; have := HG.out; omega))
  rw [if_neg c8] at h
  have d5 : (s == z) = false := beq_eq_false_iff_ne.mpr c8
  have d6 : (s != z) = true := bne_iff_ne.mpr c8
  clear ha
  simp only [Option.some.injEq, Prod.mk.injEq] at h
  obtain ⟨rfl, rfl, rfl, rfl⟩ := h
  go_enter Tryd.func41, Tryd.ntmps41
  go_wp2_with (first | (go_at_call 14; (with_reducible refine (frame_Sum.calls _ _ y2 s _ ?side1 ?side2 ?side3 ES.out).mono ?_); (case side1 => repeat (first | exact HR2.out | (with_reducible refine Kd.C_alloc ?_ _) | (with_reducible refine Kd.C_drewN ?_ _) | (with_reducible refine Kd.C_drew ?_))); (case side2 => exact HC2.out); (case side3 => first | exact HL.out | exact laid_at HL.out (pw_below_drewN (Below.refl _ _) _) | exact laid_at HL.out (by repeat (first | exact Below.refl _ _ | apply below_drew1 | apply pw_below_drewN))); rintro e w' ⟨rfl, ⟨nd, rfl⟩⟩; (try first | exact ⟨rfl, _, World.drewN_drewN _ _ _⟩ | exact ⟨rfl, _, Eq.trans (World.drewN_drewN _ _ _) (congrArg (World.drewN _) (Nat.add_assoc _ _ _))⟩)) | (go_at_call 48; (with_reducible refine (frame_word.calls _ _ y3 z _ ?side1 ?side2 EZ.out).mono ?_); (case side1 => repeat (first | exact HR3.out | (with_reducible refine Kd.C_alloc ?_ _) | (with_reducible refine Kd.C_drewN ?_ _) | (with_reducible refine Kd.C_drew ?_))); (case side2 => exact HC3.out); rintro e w' ⟨rfl, ⟨nd, rfl⟩⟩; (try first | exact ⟨rfl, _, World.drewN_drewN _ _ _⟩ | exact ⟨rfl, _, Eq.trans (World.drewN_drewN _ _ _) (congrArg (World.drewN _) (Nat.add_assoc _ _ _))⟩)) | (go_at_call 48; (with_reducible refine (frame_word.calls _ _ left n _ ?side1 ?side2 EN.out).mono ?_); (case side1 => repeat (first | exact HR1.out | (with_reducible refine Kd.C_alloc ?_ _) | (with_reducible refine Kd.C_drewN ?_ _) | (with_reducible refine Kd.C_drew ?_))); (case side2 => exact HC1.out); rintro e w' ⟨rfl, ⟨nd, rfl⟩⟩; (try first | exact ⟨rfl, _, World.drewN_drewN _ _ _⟩ | exact ⟨rfl, _, Eq.trans (World.drewN_drewN _ _ _) (congrArg (World.drewN _) (Nat.add_assoc _ _ _))⟩)))
  repeat (go_quiet (first | (go_at_call 14; (with_reducible refine (frame_Sum.calls _ _ y2 s _ ?side1 ?side2 ?side3 ES.out).mono ?_); (case side1 => repeat (first | exact HR2.out | (with_reducible refine Kd.C_alloc ?_ _) | (with_reducible refine Kd.C_drewN ?_ _) | (with_reducible refine Kd.C_drew ?_))); (case side2 => exact HC2.out); (case side3 => first | exact HL.out | exact laid_at HL.out (pw_below_drewN (Below.refl _ _) _) | exact laid_at HL.out (by repeat (first | exact Below.refl _ _ | apply below_drew1 | apply pw_below_drewN))); rintro e w' ⟨rfl, ⟨nd, rfl⟩⟩; (try first | exact ⟨rfl, _, World.drewN_drewN _ _ _⟩ | exact ⟨rfl, _, Eq.trans (World.drewN_drewN _ _ _) (congrArg (World.drewN _) (Nat.add_assoc _ _ _))⟩)) | (go_at_call 48; (with_reducible refine (frame_word.calls _ _ y3 z _ ?side1 ?side2 EZ.out).mono ?_); (case side1 => repeat (first | exact HR3.out | (with_reducible refine Kd.C_alloc ?_ _) | (with_reducible refine Kd.C_drewN ?_ _) | (with_reducible refine Kd.C_drew ?_))); (case side2 => exact HC3.out); rintro e w' ⟨rfl, ⟨nd, rfl⟩⟩; (try first | exact ⟨rfl, _, World.drewN_drewN _ _ _⟩ | exact ⟨rfl, _, Eq.trans (World.drewN_drewN _ _ _) (congrArg (World.drewN _) (Nat.add_assoc _ _ _))⟩)) | (go_at_call 48; (with_reducible refine (frame_word.calls _ _ left n _ ?side1 ?side2 EN.out).mono ?_); (case side1 => repeat (first | exact HR1.out | (with_reducible refine Kd.C_alloc ?_ _) | (with_reducible refine Kd.C_drewN ?_ _) | (with_reducible refine Kd.C_drew ?_))); (case side2 => exact HC1.out); rintro e w' ⟨rfl, ⟨nd, rfl⟩⟩; (try first | exact ⟨rfl, _, World.drewN_drewN _ _ _⟩ | exact ⟨rfl, _, Eq.trans (World.drewN_drewN _ _ _) (congrArg (World.drewN _) (Nat.add_assoc _ _ _))⟩))); try go_wp2_with (first | (go_at_call 14; (with_reducible refine (frame_Sum.calls _ _ y2 s _ ?side1 ?side2 ?side3 ES.out).mono ?_); (case side1 => repeat (first | exact HR2.out | (with_reducible refine Kd.C_alloc ?_ _) | (with_reducible refine Kd.C_drewN ?_ _) | (with_reducible refine Kd.C_drew ?_))); (case side2 => exact HC2.out); (case side3 => first | exact HL.out | exact laid_at HL.out (pw_below_drewN (Below.refl _ _) _) | exact laid_at HL.out (by repeat (first | exact Below.refl _ _ | apply below_drew1 | apply pw_below_drewN))); rintro e w' ⟨rfl, ⟨nd, rfl⟩⟩; (try first | exact ⟨rfl, _, World.drewN_drewN _ _ _⟩ | exact ⟨rfl, _, Eq.trans (World.drewN_drewN _ _ _) (congrArg (World.drewN _) (Nat.add_assoc _ _ _))⟩)) | (go_at_call 48; (with_reducible refine (frame_word.calls _ _ y3 z _ ?side1 ?side2 EZ.out).mono ?_); (case side1 => repeat (first | exact HR3.out | (with_reducible refine Kd.C_alloc ?_ _) | (with_reducible refine Kd.C_drewN ?_ _) | (with_reducible refine Kd.C_drew ?_))); (case side2 => exact HC3.out); rintro e w' ⟨rfl, ⟨nd, rfl⟩⟩; (try first | exact ⟨rfl, _, World.drewN_drewN _ _ _⟩ | exact ⟨rfl, _, Eq.trans (World.drewN_drewN _ _ _) (congrArg (World.drewN _) (Nat.add_assoc _ _ _))⟩)) | (go_at_call 48; (with_reducible refine (frame_word.calls _ _ left n _ ?side1 ?side2 EN.out).mono ?_); (case side1 => repeat (first | exact HR1.out | (with_reducible refine Kd.C_alloc ?_ _) | (with_reducible refine Kd.C_drewN ?_ _) | (with_reducible refine Kd.C_drew ?_))); (case side2 => exact HC1.out); rintro e w' ⟨rfl, ⟨nd, rfl⟩⟩; (try first | exact ⟨rfl, _, World.drewN_drewN _ _ _⟩ | exact ⟨rfl, _, Eq.trans (World.drewN_drewN _ _ _) (congrArg (World.drewN _) (Nat.add_assoc _ _ _))⟩))))
  go_ret3
  refine ⟨_, rfl, Kd.R_nil _ _ _ _ _, ?_, ?_, ?_⟩
  · first | exact HCUR.out | exact blk_drewN HCUR.out _
  · refine KeepBut.of_below ?_ _ _
    repeat (first | exact Below.refl _ _ | apply below_drew1 | apply pw_below_drewN)
  · intro B hB
    repeat (first | exact Below.refl _ _ | apply below_drew1 | apply pw_below_drewN)
set_option maxRecDepth 100000 in
set_option maxHeartbeats 4000000 in
theorem frame_Decode.calls (A0 : Option Addr) (c0 : Nat) (l0 : List Int) (a1 : Int) (r1 : List Int) (r2 : Int) (r3 : Int) (w : World) (hr0 : Kd.C (Kd.int .u8) w A0 l0.length l0) (hc0 : l0.length ≤ c0) (hL : Laid w) (h : frame_Decode.f l0 a1 = some (r1, r2, r3)) :
    Calls Tryd.prog 26 #[.slice A0 l0.length c0, .int .i64 a1] w fun e w' => ∃ v0_ : Value, e = .returned (.tuple #[v0_, .int .i64 r2, .int .i64 r3]) ∧ Kd.R (Kd.int .u8) 5 w' w.heap.size (fun _ => True) v0_ r1 ∧ Below w.heap.size w w' := by
  have HL := Aside0.mk hL
  have HR := Aside0.mk hr0
  have HC := Aside0.mk hc0
  have hmax := Kd.C_max hr0
  unfold frame_Decode.f at h
  clear hr0 hc0 hL
  by_cases c : a1 < 0 ∨ (l0.length : Int) < a1
  · rw [if_pos c] at h
    simp only [Option.some.injEq, Prod.mk.injEq] at h
    obtain ⟨rfl, rfl, rfl⟩ := h
    by_cases c1 : a1 < 0
    · have d0 : decide (a1 < 0) = true := decide_eq_true c1
      clear c c1 hmax
      go_enter Tryd.func26, Tryd.ntmps26
      go_wp2
      repeat (go_quiet (fail); try go_wp2)
      go_ret3
      exact ⟨_, rfl, Kd.R_nil _ _ _ _ _, by repeat (first | exact Below.refl _ _ | apply below_drew1 | apply pw_below_drewN)⟩
    · have d0 : decide (a1 < 0) = false := decide_eq_false c1
      have d1 : decide ((l0.length : Int) < a1) = true := decide_eq_true (by omega)
      clear c c1 hmax
      go_enter Tryd.func26, Tryd.ntmps26
      go_wp2
      repeat (go_quiet (fail); try go_wp2)
      go_ret3
      exact ⟨_, rfl, Kd.R_nil _ _ _ _ _, by repeat (first | exact Below.refl _ _ | apply below_drew1 | apply pw_below_drewN)⟩
  · rw [if_neg c] at h
    obtain ⟨q, eq, h⟩ := Option.bind_eq_some_iff.mp h
    obtain ⟨p1, p2, p3, p4⟩ := q
    simp only [Option.some.injEq, Prod.mk.injEq] at h
    obtain ⟨rfl, rfl, rfl⟩ := h
    obtain ⟨a, rfl⟩ := Int.eq_ofNat_of_zero_le (show 0 ≤ a1 by omega)
    rw [Int.toNat_natCast] at eq
    have d0 : decide ((a : Int) < 0) = false := decide_eq_false (by omega)
    have d1 : decide (l0.length < a) = false := decide_eq_false (by omega)
    have EQ := Aside0.mk eq
    have HA := Aside0.mk (show a ≤ l0.length from by omega)
    have hne : ∀ ad, A0 = some ad → 0 < l0.length → ad.block ≠ w.heap.size := by
      intro ad he hp hE
      subst he
      have h1 := Kd.C_lt HR.out hp (show 0 < 1 from Nat.one_pos)
      omega
    have HNE := Aside0.mk hne
    clear eq c hmax hne
    go_enter Tryd.func26, Tryd.ntmps26
    go_wp2_with (first | (go_at_call 41; (have hnx := frame_Decode.next w.heap.size A0 c0 l0 a p1 p2 p3 p4 (w.alloc (.cells #[.slice A0 l0.length c0, .int .i64 (a : Int)] 58)) (blk_new w _) (Kd.C_alloc HR.out _) HC.out HA.out HNE.out (laid_at HL.out (below_alloc (Below.refl _ _) _)) EQ.out); (with_reducible refine hnx.mono ?_); clear hnx; rintro e w2 ⟨v, rfl, ho, hcc, hk, hb⟩; have HO2 := Aside0.mk ho; have HB2 := Aside0.mk (hb w.heap.size (Nat.le_refl _)); have e4 : w2.cell? ⟨w.heap.size, 1, none⟩ = some (.int .i64 p4) := by simp [World.cell?, hcc]))
    repeat (go_quiet (fail); try go_wp2)
    go_ret3
    refine ⟨_, rfl, ?_, ?_⟩
    · exact Kd.R_drewN (Kd.R_lower HO2.out (by simp)) _
    · exact pw_below_drewN ((below_alloc (Below.refl _ _) _).trans HB2.out) _

/-! ### arrearsref6_turned: function 38 -/
def arrearsref6_turned.f (a0 : Int) : Option (Int) := some ((4294967295 - a0) % 4294967296)
set_option maxHeartbeats 8000000 in
set_option maxRecDepth 100000 in
theorem arrearsref6_turned.calls (a0 : Int) (r : Int) (w : World) (h : arrearsref6_turned.f a0 = some r) :
    Calls Tryd.prog 38 #[.int .u32 a0] w fun e w' => e = .returned (.int .u32 r) ∧ Drawn0 w w' := by
  have H : (some ((4294967295 - a0) % 4294967296)) = some r := h
  clear h
  obtain rfl := Option.some.inj H
  go_enter Tryd.func38, Tryd.ntmps38
  go_wp2
  go_ret
  exact ⟨by first | rfl | (simp; done) | (simp [*]; done), by repeat (first | exact Drawn0.refl _ | apply Drawn0.step)⟩

/-! ### arrearsref6_laid: function 39 -/
def arrearsref6_laid.l0 : Nat → Int → Int → Option (Int)
  | 0, _, _ => none
  | k + 1, x0, x5 => if x5 < 8 then (if (Int.tmod x0 2) = 1 then (arrearsref6_laid.l0 k (Go.bits .xor .u32 ((Int.tdiv x0 2) % 4294967296) 3988292384) (wrap64 (x5 + 1))) else (arrearsref6_laid.l0 k ((Int.tdiv x0 2) % 4294967296) (wrap64 (x5 + 1)))) else (some x0)
def arrearsref6_laid.f (k : Nat) (a0 : Int) (a1 : Int) : Option (Int) := arrearsref6_laid.l0 k (Go.bits .xor .u32 a0 ((a1) % 4294967296)) 0
theorem arrearsref6_laid.mono_l : ∀ k, (∀ y0 y1, LeO (arrearsref6_laid.l0 k y0 y1) (arrearsref6_laid.l0 (k + 1) y0 y1))
  | 0 => fun _ _ r h => by simp [arrearsref6_laid.l0] at h
  | k + 1 => by
    have ih0 := arrearsref6_laid.mono_l k
    · intro y0 y1
      unfold arrearsref6_laid.l0
      repeat' first
      | (with_reducible exact ih0 _ _)
      | (with_reducible exact LeO.refl _)
      | (with_reducible exact LeO.none _)
      | (with_reducible refine LeO.ite ?_ ?_)
      | (with_reducible refine LeO.bind ?_ (fun _ => ?_))
      | exact ih0 _ _
      | exact LeO.none _
      | refine LeO.ite ?_ ?_
      | refine LeO.bind ?_ (fun _ => ?_)
theorem arrearsref6_laid.mono : ∀ a0 a1 k, LeO (arrearsref6_laid.f k a0 a1) (arrearsref6_laid.f (k + 1) a0 a1) := by
  intro a0 a1 k
  have ih0 := arrearsref6_laid.mono_l k
  unfold arrearsref6_laid.f
  repeat' first
      | (with_reducible exact ih0 _ _)
      | (with_reducible exact LeO.refl _)
      | (with_reducible exact LeO.none _)
      | (with_reducible refine LeO.ite ?_ ?_)
      | (with_reducible refine LeO.bind ?_ (fun _ => ?_))
      | exact ih0 _ _
      | exact LeO.none _
      | refine LeO.ite ?_ ?_
      | refine LeO.bind ?_ (fun _ => ?_)
set_option maxHeartbeats 8000000 in
set_option maxRecDepth 100000 in
theorem arrearsref6_laid.calls (k : Nat) (a0 : Int) (a1 : Int) (r : Int) (w : World) (h : arrearsref6_laid.f k a0 a1 = some r) :
    Calls Tryd.prog 39 #[.int .u32 a0, .int .u8 a1] w fun e w' => e = .returned (.int .u32 r) ∧ Drawn0 w w' := by
  have H : (arrearsref6_laid.l0 k (Go.bits .xor .u32 a0 ((a1) % 4294967296)) 0) = some r := h
  clear h
  have H' := Aside0.mk H
  clear H
  go_enter Tryd.func39, Tryd.ntmps39
  go_wp2
  go_loopg [0, 5] k (fun kq v0 v5 w' => ∃ (x0_1 : Int) (x5_1 : Int), v0 = .int .u32 x0_1 ∧ v5 = .int .i64 x5_1 ∧ Aside0 (arrearsref6_laid.l0 kq x0_1 x5_1 = some r) ∧ Aside0 (kq ≤ k) ∧ Drawn0 w w')
  case atStart => exact ⟨(Go.bits .xor .u32 a0 ((a1) % 4294967296)), (0), (by first | rfl | (simp; done) | (simp [*]; done)), (by first | rfl | (simp; done) | (simp [*]; done)), H', ⟨Nat.le_refl _⟩, by repeat (first | exact Drawn0.refl _ | apply Drawn0.step)⟩
  case round =>
    clear H'
    try clear p2
    obtain ⟨x0_1, x5_1, rfl, rfl, HA, HK1, ⟨m1, rfl⟩⟩ := hrel
    cases gk with
    | zero => exact absurd HA.out (by simp [arrearsref6_laid.l0])
    | succ k1 =>
      have H := HA.out
      clear HA
      simp only [arrearsref6_laid.l0] at H
      by_cases c3 : x5_1 < 8
      · rw [if_pos c3] at H
        have c3b0 : decide (x5_1 < 8) = true := decide_eq_true c3
        clear c3
        by_cases c4 : (Int.tmod x0_1 2) = 1
        · rw [if_pos c4] at H
          have c4b0 : ((Int.tmod x0_1 2) == 1) = true := beq_iff_eq.mpr c4
          have c4b1 : ((Int.tmod x0_1 2) != 1) = false := bne_eq_false_iff_eq.mpr c4
          clear c4
          have H' := Aside0.mk H
          clear H
          go_wp2
          go_roundg k1
          case measure => have := HK1.out; omega
          case rel => exact ⟨(Go.bits .xor .u32 ((Int.tdiv x0_1 2) % 4294967296) 3988292384), (wrap64 (x5_1 + 1)), (by first | rfl | (simp; done) | (simp [*]; done)), (by first | rfl | (simp; done) | (simp [*]; done)), H', ⟨by have := HK1.out; omega⟩, by repeat (first | exact Drawn0.refl _ | apply Drawn0.step)⟩
        · rw [if_neg c4] at H
          have c4b0 : ((Int.tmod x0_1 2) == 1) = false := beq_eq_false_iff_ne.mpr c4
          have c4b1 : ((Int.tmod x0_1 2) != 1) = true := bne_iff_ne.mpr c4
          have H' := Aside0.mk H
          clear H
          go_wp2
          go_roundg k1
          case measure => have := HK1.out; omega
          case rel => exact ⟨((Int.tdiv x0_1 2) % 4294967296), (wrap64 (x5_1 + 1)), (by first | rfl | (simp; done) | (simp [*]; done)), (by first | rfl | (simp; done) | (simp [*]; done)), H', ⟨by have := HK1.out; omega⟩, by repeat (first | exact Drawn0.refl _ | apply Drawn0.step)⟩
      · rw [if_neg c3] at H
        have c3b0 : decide (x5_1 < 8) = false := decide_eq_false c3
        clear c3
        obtain rfl := Option.some.inj H
        go_wp2
        go_ret
        exact ⟨by first | rfl | (simp; done) | (simp [*]; done), by repeat (first | exact Drawn0.refl _ | apply Drawn0.step)⟩

/-! ### arrearsref6_Extend: function 17 -/
def arrearsref6_Extend.l0 : Nat → List Int → Int → Int → Option (Int)
  | 0, _, _, _ => none
  | k + 1, x1, x5, x6 => if x6 < (x1.length : Int) then (if 0 ≤ x6 then ((arrearsref6_laid.f k x5 (rd x1 x6)).bind fun t136 => (arrearsref6_Extend.l0 k x1 t136 (wrap64 (x6 + 1)))) else (none)) else ((arrearsref6_turned.f x5).bind fun t137 => (some t137))
def arrearsref6_Extend.f (k : Nat) (a0 : Int) (l1 : List Int) : Option (Int) := (arrearsref6_turned.f a0).bind fun t134 => (arrearsref6_Extend.l0 k l1 t134 0)
theorem arrearsref6_Extend.mono_l : ∀ k, (∀ y0 y1 y2, LeO (arrearsref6_Extend.l0 k y0 y1 y2) (arrearsref6_Extend.l0 (k + 1) y0 y1 y2))
  | 0 => fun _ _ _ r h => by simp [arrearsref6_Extend.l0] at h
  | k + 1 => by
    have ih0 := arrearsref6_Extend.mono_l k
    · intro y0 y1 y2
      unfold arrearsref6_Extend.l0
      repeat' first
      | (with_reducible exact ih0 _ _ _)
      | (with_reducible exact arrearsref6_laid.mono _ _ _)
      | (with_reducible exact LeO.refl _)
      | (with_reducible exact LeO.none _)
      | (with_reducible refine LeO.ite ?_ ?_)
      | (with_reducible refine LeO.bind ?_ (fun _ => ?_))
      | exact ih0 _ _ _
      | exact arrearsref6_laid.mono _ _ _
      | exact LeO.none _
      | refine LeO.ite ?_ ?_
      | refine LeO.bind ?_ (fun _ => ?_)
theorem arrearsref6_Extend.mono : ∀ a0 a1 k, LeO (arrearsref6_Extend.f k a0 a1) (arrearsref6_Extend.f (k + 1) a0 a1) := by
  intro a0 a1 k
  have ih0 := arrearsref6_Extend.mono_l k
  unfold arrearsref6_Extend.f
  repeat' first
      | (with_reducible exact ih0 _ _ _)
      | (with_reducible exact arrearsref6_laid.mono _ _ _)
      | (with_reducible exact LeO.refl _)
      | (with_reducible exact LeO.none _)
      | (with_reducible refine LeO.ite ?_ ?_)
      | (with_reducible refine LeO.bind ?_ (fun _ => ?_))
      | exact ih0 _ _ _
      | exact arrearsref6_laid.mono _ _ _
      | exact LeO.none _
      | refine LeO.ite ?_ ?_
      | refine LeO.bind ?_ (fun _ => ?_)
set_option maxHeartbeats 8000000 in
set_option maxRecDepth 100000 in
theorem arrearsref6_Extend.calls (k : Nat) (a0 : Int) (A1 : Option Addr) (c1 : Nat) (l1 : List Int) (r : Int) (w : World) (hr1 : Kd.C (Kd.int .u8) w A1 l1.length l1) (hc1 : l1.length ≤ c1) (h : arrearsref6_Extend.f k a0 l1 = some r) :
    Calls Tryd.prog 17 #[.int .u32 a0, .slice A1 l1.length c1] w fun e w' => e = .returned (.int .u32 r) ∧ Drawn0 w w' := by
  have HR1 := Aside0.mk hr1
  have HC1 := Aside0.mk hc1
  clear hr1 hc1
  have H : ((arrearsref6_turned.f a0).bind fun t134 => (arrearsref6_Extend.l0 k l1 t134 0)) = some r := h
  clear h
  replace H := Option.bind_eq_some_iff.mp H
  obtain ⟨t134, A30, H⟩ := H
  replace H : (arrearsref6_Extend.l0 k l1 t134 0) = some r := H
  have A3 := Aside0.mk A30
  clear A30
  have H' := Aside0.mk H
  clear H
  go_enter Tryd.func17, Tryd.ntmps17
  go_wp2_with (first | ((with_reducible refine gate_callee (f := 38) rfl ?_); refine goesL_ (some 8) rfl rfl Tryd.func38 (by kernel_rfl) rfl #[.int .u32 a0] rfl (by (try simp only [List.map_toArray, List.map_cons, List.map_nil]); first | done | rfl | (simp only [List.length_drop, List.length_take]; rfl)) ?_; (with_reducible refine (arrearsref6_turned.calls a0 t134 _ A3.out).mono ?_); rintro e w' ⟨rfl, ⟨nd, rfl⟩⟩; refine ⟨_, rfl, ?_⟩))
  go_loopg [5, 6] k (fun kq v5 v6 w' => ∃ (x5_1 : Int) (x6_1 : Int), v5 = .int .u32 x5_1 ∧ v6 = .int .i64 x6_1 ∧ Aside0 (arrearsref6_Extend.l0 kq l1 x5_1 x6_1 = some r) ∧ Aside0 (kq ≤ k) ∧ Drawn0 w w')
  case atStart => exact ⟨(t134), (0), (by first | rfl | (simp; done) | (simp [*]; done)), (by first | rfl | (simp; done) | (simp [*]; done)), H', ⟨Nat.le_refl _⟩, by repeat (first | exact Drawn0.refl _ | apply Drawn0.step)⟩
  case round =>
    clear H'
    try clear c1
    try clear p2
    try clear c3
    obtain ⟨x5_1, x6_1, rfl, rfl, HA, HK1, ⟨m1, rfl⟩⟩ := hrel
    cases gk with
    | zero => exact absurd HA.out (by simp [arrearsref6_Extend.l0])
    | succ k1 =>
      have H := HA.out
      clear HA
      simp only [arrearsref6_Extend.l0] at H
      by_cases c4 : x6_1 < (l1.length : Int)
      · rw [if_pos c4] at H
        have c4b0 : decide (x6_1 < (l1.length : Int)) = true := decide_eq_true c4
        clear c4
        by_cases c5 : 0 ≤ x6_1
        · rw [if_pos c5] at H
          have c5b0 : decide (0 ≤ x6_1) = true := decide_eq_true c5
          clear c5
          replace H := Option.bind_eq_some_iff.mp H
          obtain ⟨t136, A60, H⟩ := H
          replace H : (arrearsref6_Extend.l0 k1 l1 t136 (wrap64 (x6_1 + 1))) = some r := H
          have A6 := Aside0.mk A60
          clear A60
          have H' := Aside0.mk H
          clear H
          have p135 : 0 ≤ (x6_1 : Int) := of_decide_eq_true (by first | (with_reducible assumption) | assumption)
          have q135 : x6_1 < (l1.length : Int) := of_decide_eq_true (by first | (with_reducible assumption) | assumption)
          obtain ⟨ad135, e135, hx135_0⟩ := Kd.at_int HR1.out x6_1 p135 q135
          cases e135
          replace p135 := eq_true p135
          replace q135 := eq_true q135
          go_wp2_with (first | ((with_reducible refine gate_callee (f := 39) rfl ?_); refine goesL_ (some 20) rfl rfl Tryd.func39 (by kernel_rfl) rfl #[.int .u32 x5_1, .int .u8 (rd l1 x6_1)] rfl (by (try simp only [List.map_toArray, List.map_cons, List.map_nil]); first | done | rfl | (simp only [List.length_drop, List.length_take]; rfl)) ?_; (with_reducible refine (arrearsref6_laid.calls k1 x5_1 (rd l1 x6_1) t136 _ A6.out).mono ?_); rintro e w' ⟨rfl, ⟨nd, rfl⟩⟩; refine ⟨_, rfl, ?_⟩))
          go_roundg k1
          case measure => have := HK1.out; omega
          case rel => exact ⟨(t136), (wrap64 (x6_1 + 1)), (by first | rfl | (simp; done) | (simp [*]; done)), (by first | rfl | (simp; done) | (simp [*]; done)), H', ⟨by have := HK1.out; omega⟩, by repeat (first | exact Drawn0.refl _ | apply Drawn0.step)⟩
        · rw [if_neg c5] at H
          exact absurd H (by simp)
      · rw [if_neg c4] at H
        have c4b0 : decide (x6_1 < (l1.length : Int)) = false := decide_eq_false c4
        clear c4
        replace H := Option.bind_eq_some_iff.mp H
        obtain ⟨t137, A70, H⟩ := H
        replace H : (some t137) = some r := H
        have A7 := Aside0.mk A70
        clear A70
        obtain rfl := Option.some.inj H
        go_wp2_with (first | ((with_reducible refine gate_callee (f := 38) rfl ?_); refine goesL_ (some 22) rfl rfl Tryd.func38 (by kernel_rfl) rfl #[.int .u32 x5_1] rfl (by (try simp only [List.map_toArray, List.map_cons, List.map_nil]); first | done | rfl | (simp only [List.length_drop, List.length_take]; rfl)) ?_; (with_reducible refine (arrearsref6_turned.calls x5_1 t137 _ A7.out).mono ?_); rintro e w' ⟨rfl, ⟨nd, rfl⟩⟩; refine ⟨_, rfl, ?_⟩))
        go_ret
        exact ⟨by first | rfl | (simp; done) | (simp [*]; done), by repeat (first | exact Drawn0.refl _ | apply Drawn0.step)⟩

/-! ### arrearsref6_Sum: function 15 -/
def arrearsref6_Sum.f (k : Nat) (l0 : List Int) : Option (Int) := (arrearsref6_Extend.f k 0 l0).bind fun t138 => (some t138)
theorem arrearsref6_Sum.mono : ∀ a0 k, LeO (arrearsref6_Sum.f k a0) (arrearsref6_Sum.f (k + 1) a0) := by
  intro a0 k
  unfold arrearsref6_Sum.f
  repeat' first
      | (with_reducible exact arrearsref6_Extend.mono _ _ _)
      | (with_reducible exact LeO.refl _)
      | (with_reducible exact LeO.none _)
      | (with_reducible refine LeO.ite ?_ ?_)
      | (with_reducible refine LeO.bind ?_ (fun _ => ?_))
      | exact arrearsref6_Extend.mono _ _ _
      | exact LeO.none _
      | refine LeO.ite ?_ ?_
      | refine LeO.bind ?_ (fun _ => ?_)
set_option maxHeartbeats 8000000 in
set_option maxRecDepth 100000 in
theorem arrearsref6_Sum.calls (k : Nat) (A0 : Option Addr) (c0 : Nat) (l0 : List Int) (r : Int) (w : World) (hr0 : Kd.C (Kd.int .u8) w A0 l0.length l0) (hc0 : l0.length ≤ c0) (h : arrearsref6_Sum.f k l0 = some r) :
    Calls Tryd.prog 15 #[.slice A0 l0.length c0] w fun e w' => e = .returned (.int .u32 r) ∧ Drawn0 w w' := by
  have HR0 := Aside0.mk hr0
  have HC0 := Aside0.mk hc0
  clear hr0 hc0
  have H : ((arrearsref6_Extend.f k 0 l0).bind fun t138 => (some t138)) = some r := h
  clear h
  replace H := Option.bind_eq_some_iff.mp H
  obtain ⟨t138, A20, H⟩ := H
  replace H : (some t138) = some r := H
  have A2 := Aside0.mk A20
  clear A20
  obtain rfl := Option.some.inj H
  go_enter Tryd.func15, Tryd.ntmps15
  go_wp2_with (first | ((with_reducible refine gate_callee (f := 17) rfl ?_); refine goesL_ (some 4) rfl rfl Tryd.func17 (by kernel_rfl) rfl #[.int .u32 0, .slice A0 l0.length c0] rfl (by (try simp only [List.map_toArray, List.map_cons, List.map_nil]); first | done | rfl | (simp only [List.length_drop, List.length_take]; rfl)) ?_; (with_reducible refine (arrearsref6_Extend.calls k 0 _ _ l0 t138 _ ?side1 ?side2 A2.out).mono ?_); (case side1 => repeat (first | exact HR0.out | (with_reducible refine Kd.C_alloc ?_ _) | (with_reducible refine Kd.C_drewN ?_ _) | (with_reducible refine Kd.C_drew ?_))); (case side2 => exact HC0.out); rintro e w' ⟨rfl, ⟨nd, rfl⟩⟩; refine ⟨_, rfl, ?_⟩))
  go_ret
  exact ⟨by first | rfl | (simp; done) | (simp [*]; done), by repeat (first | exact Drawn0.refl _ | apply Drawn0.step)⟩

/-! ### arrearsref6_number: function 49 -/
def arrearsref6_number.l0 : Nat → List Int → Int → Int → Int → Option (Int)
  | 0, _, _, _, _ => none
  | k + 1, x0, x1, x5, x6 => if x6 ≥ 0 then (if 0 ≤ (wrap64 (x1 + x6)) then (if (wrap64 (x1 + x6)) < (x0.length : Int) then (arrearsref6_number.l0 k x0 x1 (wrap64 ((wrap64 (x5 * 256)) + (wrap64 (rd x0 (wrap64 (x1 + x6)))))) (wrap64 (x6 - 1))) else (none)) else (none)) else (some x5)
def arrearsref6_number.f (k : Nat) (l0 : List Int) (a1 : Int) : Option (Int) := arrearsref6_number.l0 k l0 a1 0 3
theorem arrearsref6_number.mono_l : ∀ k, (∀ y0 y1 y2 y3, LeO (arrearsref6_number.l0 k y0 y1 y2 y3) (arrearsref6_number.l0 (k + 1) y0 y1 y2 y3))
  | 0 => fun _ _ _ _ r h => by simp [arrearsref6_number.l0] at h
  | k + 1 => by
    have ih0 := arrearsref6_number.mono_l k
    · intro y0 y1 y2 y3
      unfold arrearsref6_number.l0
      repeat' first
      | (with_reducible exact ih0 _ _ _ _)
      | (with_reducible exact LeO.refl _)
      | (with_reducible exact LeO.none _)
      | (with_reducible refine LeO.ite ?_ ?_)
      | (with_reducible refine LeO.bind ?_ (fun _ => ?_))
      | exact ih0 _ _ _ _
      | exact LeO.none _
      | refine LeO.ite ?_ ?_
      | refine LeO.bind ?_ (fun _ => ?_)
theorem arrearsref6_number.mono : ∀ a0 a1 k, LeO (arrearsref6_number.f k a0 a1) (arrearsref6_number.f (k + 1) a0 a1) := by
  intro a0 a1 k
  have ih0 := arrearsref6_number.mono_l k
  unfold arrearsref6_number.f
  repeat' first
      | (with_reducible exact ih0 _ _ _ _)
      | (with_reducible exact LeO.refl _)
      | (with_reducible exact LeO.none _)
      | (with_reducible refine LeO.ite ?_ ?_)
      | (with_reducible refine LeO.bind ?_ (fun _ => ?_))
      | exact ih0 _ _ _ _
      | exact LeO.none _
      | refine LeO.ite ?_ ?_
      | refine LeO.bind ?_ (fun _ => ?_)
set_option maxHeartbeats 8000000 in
set_option maxRecDepth 100000 in
theorem arrearsref6_number.calls (k : Nat) (A0 : Option Addr) (c0 : Nat) (l0 : List Int) (a1 : Int) (r : Int) (w : World) (hr0 : Kd.C (Kd.int .u8) w A0 l0.length l0) (hc0 : l0.length ≤ c0) (h : arrearsref6_number.f k l0 a1 = some r) :
    Calls Tryd.prog 49 #[.slice A0 l0.length c0, .int .i64 a1] w fun e w' => e = .returned (.int .i64 r) ∧ Drawn0 w w' := by
  have HR0 := Aside0.mk hr0
  have HC0 := Aside0.mk hc0
  clear hr0 hc0
  have H : (arrearsref6_number.l0 k l0 a1 0 3) = some r := h
  clear h
  have H' := Aside0.mk H
  clear H
  go_enter Tryd.func49, Tryd.ntmps49
  go_wp2
  go_loopg [5, 6] k (fun kq v5 v6 w' => ∃ (x5_1 : Int) (x6_1 : Int), v5 = .int .i64 x5_1 ∧ v6 = .int .i64 x6_1 ∧ Aside0 (arrearsref6_number.l0 kq l0 a1 x5_1 x6_1 = some r) ∧ Aside0 (kq ≤ k) ∧ Drawn0 w w')
  case atStart => exact ⟨(0), (3), (by first | rfl | (simp; done) | (simp [*]; done)), (by first | rfl | (simp; done) | (simp [*]; done)), H', ⟨Nat.le_refl _⟩, by repeat (first | exact Drawn0.refl _ | apply Drawn0.step)⟩
  case round =>
    clear H'
    try clear p2
    obtain ⟨x5_1, x6_1, rfl, rfl, HA, HK1, ⟨m1, rfl⟩⟩ := hrel
    cases gk with
    | zero => exact absurd HA.out (by simp [arrearsref6_number.l0])
    | succ k1 =>
      have H := HA.out
      clear HA
      simp only [arrearsref6_number.l0] at H
      by_cases c3 : x6_1 ≥ 0
      · rw [if_pos c3] at H
        have c3b0 : decide (0 ≤ x6_1) = true := decide_eq_true c3
        clear c3
        obtain ⟨ji4, hji4⟩ : ∃ j_ : Int, (wrap64 (a1 + x6_1)) = j_ := ⟨_, rfl⟩
        replace H : (if 0 ≤ (ji4) then (if (ji4) < (l0.length : Int) then (arrearsref6_number.l0 k1 l0 a1 (wrap64 ((wrap64 (x5_1 * 256)) + (wrap64 (rd l0 (ji4))))) (wrap64 (x6_1 - 1))) else (none)) else (none)) = some r := by first | (rw [hji4] at H; exact H) | (simp only [hji4] at H ⊢; exact H)
        have hji4w : (IntKind.i64.wrap (a1 + x6_1)) = ji4 := (i64_w _).trans hji4
        by_cases c5 : 0 ≤ (ji4)
        · rw [if_pos c5] at H
          have c5b0 : decide (0 ≤ (ji4)) = true := decide_eq_true c5
          clear c5
          by_cases c6 : (ji4) < (l0.length : Int)
          · rw [if_pos c6] at H
            have c6b0 : decide ((ji4) < (l0.length : Int)) = true := decide_eq_true c6
            clear c6
            have H' := Aside0.mk H
            clear H
            have p139 : 0 ≤ ((ji4) : Int) := of_decide_eq_true (by first | (with_reducible assumption) | assumption)
            have q139 : (ji4) < (l0.length : Int) := of_decide_eq_true (by first | (with_reducible assumption) | assumption)
            obtain ⟨ad139, e139, hx139_0⟩ := Kd.at_int HR0.out (ji4) p139 q139
            cases e139
            replace p139 := eq_true p139
            replace q139 := eq_true q139
            go_wp2
            go_roundg k1
            case measure => have := HK1.out; omega
            case rel => exact ⟨(wrap64 ((wrap64 (x5_1 * 256)) + (wrap64 (rd l0 (ji4))))), (wrap64 (x6_1 - 1)), (by first | rfl | (simp; done) | (simp only [← hji4] <;> (first | rfl | simp)) | (simp [*]; done)), (by first | rfl | (simp; done) | (simp [*]; done)), H', ⟨by have := HK1.out; omega⟩, by repeat (first | exact Drawn0.refl _ | apply Drawn0.step)⟩
          · rw [if_neg c6] at H
            exact absurd H (by simp)
        · rw [if_neg c5] at H
          exact absurd H (by simp)
      · rw [if_neg c3] at H
        have c3b0 : decide (0 ≤ x6_1) = false := decide_eq_false c3
        clear c3
        obtain rfl := Option.some.inj H
        go_wp2
        go_ret
        exact ⟨by first | rfl | (simp; done) | (simp [*]; done), by repeat (first | exact Drawn0.refl _ | apply Drawn0.step)⟩

end Go.Proofs.YtgfjmpnlkjocaaaDoor.D
