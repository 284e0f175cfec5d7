/- The row of DiskCountdown: what its walk comes to. No condition. -/
import Derived.Test.YticokogggepfoaaRows
import Derived.Test.YticokogggepfoaaLD
import Derived.Test.YticokogggepfoaaOpen
import Derived.WalkKit
import Derived.ProofKit
import Derived.OpenShut
import Derived.ShutString
import Derived.ChangeOld
import Derived.Below
import Derived.SizedLaws
import Derived.WideShapes
import Derived.KernelRfl
namespace Go.Proofs.Yticokogggepfoaa.diskCountdown
open Go.ChangeShapes Go.WideShapes Go.ChangeAt Go.RowKit Go.Proofs.YticokogggepfoaaW.PrintWords Go.Proofs.Yticokogggepfoaa.Opn Go.Proofs.Yticokogggepfoaa.D
open Go.ChangeMaps (open_string shut_string)
set_option linter.unusedVariables false
set_option maxRecDepth 100000
theorem o5 : Opens Try.prog 5 (Kd.int .u8) (fun B x => (Lit.int .u8 x).wf = true) := opens_int Try.underlying5
theorem o28 : Opens Try.prog 28 (Kd.slice 5 (Kd.int .u8)) (fun B xs => (∀ x_ ∈ xs, (Lit.int .u8 x_).wf = true) ∧ xs.length * 1 ≤ 140737488351232 ∧ xs.length ≤ B) := opens_slice Try.underlying28 o5 (by kernel_rfl)
theorem o22 : Opens Try.prog 22 (Kd.slice 28 (Kd.slice 5 (Kd.int .u8))) (fun B xs => (∀ x_ ∈ xs, (∀ x_1 ∈ x_, (Lit.int .u8 x_1).wf = true) ∧ x_.length * 1 ≤ 140737488351232 ∧ x_.length ≤ B) ∧ xs.length * 24 ≤ 140737488351232 ∧ xs.length ≤ B) := opens_slice Try.underlying22 o28 (by kernel_rfl)
theorem own : ownKnob Try.prog.godebug = none := by kernel_rfl
theorem laidOut : laidOutB Try.prog = true := by kernel_rfl
set_option maxRecDepth 100000 in
theorem contract (H : Type) (enc : TypeId × Value → H) (W : World) (base : Nat) (args : Array Value) (ds gs : List (DataW H)) (before : List MemPlace)
    (hval0 : ∀ (j : Nat) t v, Try.f3.params[j]? = some t → args[j]? = some v → Value.okWide Try.prog W .any base t v)
    (hW : DataW.Whole enc Try.prog Try.f3.params.toList Rows.diskCountdownSpec.vars false W args.toList ds gs before)
    (hsz0 : (DataW.weightsEach Try.prog (Try.f3.params.toList ++ Rows.diskCountdownSpec.plain.varTypes Try.prog) (ds ++ gs)).all (· ≤ reachBytes) = true) :
    Calls Try.prog 3 args W fun e W' => ∃ v, e = .returned v ∧ Rows.diskCountdownSpec.post enc Try.prog Try.f3 false true false false W args v W' := by
  have hsz : (DataW.weightsEach Try.prog (Try.f3.params.toList ++ Rows.diskCountdownSpec.plain.varTypes Try.prog) (ds ++ gs)).all (· ≤ reachBytes) = true := hsz0
  have hval : ∀ (j : Nat) t v, Try.f3.params[j]? = some t → args[j]? = some v → Value.okWide Try.prog W .any base t v := hval0
  have hW' := hW
  obtain ⟨p, q, hA0, hV, rfl, hfz, hnd⟩ := hW
  have hA : DataW.TrodAll enc Try.prog W 0 (fun _ => true) true Try.f3.params.toList args.toList ds p := hA0
  rw [Try.params3] at hA hval hsz
  obtain ⟨v0, vs0, d0, ds0, p0, q0, hargs, rfl, rfl, h0, r0⟩ := trodAll_cons hA
  obtain ⟨v1, vs1, d1, ds1, p1, q1, rfl, rfl, rfl, h1, r1⟩ := trodAll_cons r0
  obtain ⟨v2, vs2, d2, ds2, p2, q2, rfl, rfl, rfl, h2, r2⟩ := trodAll_cons r1
  obtain ⟨rfl, rfl, rfl⟩ := trodAll_nil r2
  obtain rfl : args = #[v0, v1, v2] := by cases args; simp_all
  obtain ⟨rfl, rfl⟩ := trodVars_none hV
  obtain ⟨a0, rfl, rfl, rfl, w0⟩ := open_int Try.underlying3 (hval 0 3 v0 rfl rfl) h0
  obtain ⟨a1, rfl, rfl, rfl, w1⟩ := open_int Try.underlying3 (hval 1 3 v1 rfl rfl) h1
  obtain ⟨b2, len2, cap2, rfl⟩ := okWide_slice Try.underlying22 (hval 2 22 v2 rfl rfl)
  have k2_ := h2
  have lt2 : ∀ x ∈ p2, x.block < W.heap.size := by obtain ⟨m, hm⟩ := k2_; exact DataW.trod_lt m _ _ _ hm
  obtain ⟨fu2, hf2⟩ := h2
  obtain ⟨l2, ⟨A2, c2, hc2, hle2, hr2⟩, ho2⟩ := o22 enc W fu2 _ _ _ hf2 (weight_of hsz (j := 2) rfl rfl) _ (Nat.le_refl _)
  have hc2' : (Value.slice b2 len2 cap2) = .slice A2 l2.length c2 := by injection hc2
  injection hc2' with e1_2 e2_2 e3_2
  subst e1_2 e2_2 e3_2
  clear hA0 hval0 hsz0 hsz
  have hcall : Calls Try.prog 3 #[.int .i64 a0, .int .i64 a1, .slice b2 l2.length cap2] W fun e W' => e = .returned (.bool true) ∧ Below W.heap.size W W' := by
    by_cases hk : ok1 a0 a1 l2.length
    · obtain ⟨g1, g2, g3, g4, g5⟩ := hk
      obtain ⟨m, rfl⟩ := Int.eq_ofNat_of_zero_le (show 0 ≤ a0 by omega)
      obtain ⟨K, rfl⟩ := Int.eq_ofNat_of_zero_le g3
      exact countdown_good m K b2 cap2 l2 (by omega) (by omega) (by omega) g5 W hr2 (fun x hx => by have := (ho2.1 x hx).2.1; omega)
    · exact countdown_bad a0 a1 b2 l2.length cap2 hk W
  refine hcall.mono fun e W' ⟨he, bel0⟩ => ?_
  have bel : Below W.heap.size W W' := bel0
  subst he
  exact ⟨_, rfl, _, _, _, [], _, [], hW', trodAll_mk1 (shut_bool Try.underlying4 _), (trodAll_cons_mk (shut_int Try.underlying3 w0) (trodAll_cons_mk (shut_int Try.underlying3 w1) (trodAll_cons_mk (Below.trod laidOut (by kernel_rfl) (of_decide_eq_true (by kernel_rfl)) k2_ bel lt2) trodAll_mk0))), rfl, bel.frame _, fun h => by cases h⟩
theorem lifted (os : Os) (started : os.Started) (H : Type) (enc : TypeId × Value → H) :
    ReturnsInHanded {} Try.checked os 3 .any (Rows.diskCountdownSpec.pre6 enc Try.prog Try.f3 Rows.diskCountdownRow.domain false) (Rows.diskCountdownSpec.post enc Try.prog Try.f3 false true false false) := by
  refine returnsInHanded_of_change_sized (C := Try.checked) own started (by kernel_rfl) Try.func3
    (ChangeSpec.witness6 (enc := enc) (C := Try.checked) false ⟨#[], #[.int .i64 0, .int .i64 0, .slice none 0 0], []⟩ 8 (by kernel_rfl) (by kernel_rfl) (by kernel_rfl) (by kernel_rfl)) ?_
  intro W base args ds gs before hval0 hW hcnd hsz0 _
  exact contract H enc W base args ds gs before hval0 hW hsz0
theorem over : Rows.diskCountdownRow.holds Try.pinned (OpenSpec.ofChange Rows.diskCountdownSpec) :=
  OpenClaim.holds_of_wide 3 Try.f3 rfl rfl rfl rfl rfl rfl rfl ⟨rfl, rfl, rfl, rfl, rfl⟩ rfl rfl rfl rfl rfl (by kernel_rfl) Try.func3 (by kernel_rfl)
    (of_decide_eq_true (by kernel_rfl)) (by unfold Func.isWrapper; first | (rw [if_pos (by decide +kernel)]; kernel_rfl) | (rw [if_neg (by decide +kernel)]; exact ⟨rfl, rfl⟩))
    (fun os started H enc _ => lifted os started H enc)
theorem proved : Rows.DiskCountdownSaid := over
end Go.Proofs.Yticokogggepfoaa.diskCountdown
namespace Go.Proofs.Yticokogggepfoaa
/-- The statement, under a short name, for the claim. -/
theorem diskCountdown_holds : Rows.DiskCountdownSaid := diskCountdown.proved
end Go.Proofs.Yticokogggepfoaa
