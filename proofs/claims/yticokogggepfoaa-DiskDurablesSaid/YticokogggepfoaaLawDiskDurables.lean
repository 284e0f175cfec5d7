/- The row of DiskDurables: what its walk comes to. No condition. -/
import Derived.Test.YticokogggepfoaaRows
import Derived.Test.YticokogggepfoaaMF
import Derived.Test.YticokogggepfoaaOpen
import Derived.WalkKit
import Derived.ProofKit
import Derived.OpenShut
import Derived.ShutString
import Derived.ChangeOld
import Derived.Below
import Derived.SizedLaws
import Derived.WideShapes
import Derived.KernelRfl
namespace Go.Proofs.Yticokogggepfoaa.diskDurables
open Go.ChangeShapes Go.WideShapes Go.ChangeAt Go.RowKit Go.Proofs.YticokogggepfoaaW.PrintWords Go.Proofs.Yticokogggepfoaa.Opn Go.Proofs.Yticokogggepfoaa.D
open Go.ChangeMaps (open_string shut_string)
set_option linter.unusedVariables false
set_option maxRecDepth 100000
theorem o5 : Opens Try.prog 5 (Kd.int .u8) (fun B x => (Lit.int .u8 x).wf = true) := opens_int Try.underlying5
theorem o28 : Opens Try.prog 28 (Kd.slice 5 (Kd.int .u8)) (fun B xs => (∀ x_ ∈ xs, (Lit.int .u8 x_).wf = true) ∧ xs.length * 1 ≤ 140737488351232 ∧ xs.length ≤ B) := opens_slice Try.underlying28 o5 (by kernel_rfl)
theorem o3 : Opens Try.prog 3 (Kd.int .i64) (fun B x => (Lit.int .i64 x).wf = true) := opens_int Try.underlying3
theorem o4 : Opens Try.prog 4 Kd.bool (fun B x => True) := opens_bool Try.underlying4
def OMwf (B : Nat) (x : OM) : Prop := x.data.length * 1 ≤ 140737488351232 ∧ x.data.length ≤ B
theorem o45 : Opens Try.prog 45 OpK OMwf :=
  opens_mono (opens_struct Try.underlying45 (opensF_cons o3 (by kernel_rfl) (opensF_cons o4 (by kernel_rfl) (opensF_cons o3 (by kernel_rfl) (opensF_cons o3 (by kernel_rfl) (opensF_cons o3 (by kernel_rfl) (opensF_one o28 (by kernel_rfl)) (by kernel_rfl)) (by kernel_rfl)) (by kernel_rfl)) (by kernel_rfl)) (by kernel_rfl)) (by kernel_rfl) _ (fun p => (⟨p.1, p.2.1, p.2.2.1, p.2.2.2.1, p.2.2.2.2.1, p.2.2.2.2.2⟩ : OM)) (fun _ => rfl)) (fun B x h => h.2.2.2.2.2.2)
theorem o37 : Opens Try.prog 37 (Kd.slice 45 OpK) (fun B xs => (∀ x_ ∈ xs, OMwf B x_) ∧ xs.length * 64 ≤ 140737488351232 ∧ xs.length ≤ B) := opens_slice Try.underlying37 o45 (by kernel_rfl)
theorem own : ownKnob Try.prog.godebug = none := by kernel_rfl
theorem laidOut : laidOutB Try.prog = true := by kernel_rfl
set_option maxRecDepth 100000 in
theorem contract (H : Type) (enc : TypeId × Value → H) (W : World) (base : Nat) (args : Array Value) (ds gs : List (DataW H)) (before : List MemPlace)
    (hval0 : ∀ (j : Nat) t v, Try.f8.params[j]? = some t → args[j]? = some v → Value.okWide Try.prog W .any base t v)
    (hW : DataW.Whole enc Try.prog Try.f8.params.toList Rows.diskDurablesSpec.vars false W args.toList ds gs before)
    (hsz0 : (DataW.weightsEach Try.prog (Try.f8.params.toList ++ Rows.diskDurablesSpec.plain.varTypes Try.prog) (ds ++ gs)).all (· ≤ reachBytes) = true) :
    Calls Try.prog 8 args W fun e W' => ∃ v, e = .returned v ∧ Rows.diskDurablesSpec.post enc Try.prog Try.f8 false true false false W args v W' := by
  have hsz : (DataW.weightsEach Try.prog (Try.f8.params.toList ++ Rows.diskDurablesSpec.plain.varTypes Try.prog) (ds ++ gs)).all (· ≤ reachBytes) = true := hsz0
  have hval : ∀ (j : Nat) t v, Try.f8.params[j]? = some t → args[j]? = some v → Value.okWide Try.prog W .any base t v := hval0
  have hW' := hW
  obtain ⟨p, q, hA0, hV, rfl, hfz, hnd⟩ := hW
  have hA : DataW.TrodAll enc Try.prog W 0 (fun _ => true) true Try.f8.params.toList args.toList ds p := hA0
  rw [Try.params8] at hA hval hsz
  obtain ⟨v0, vs0, d0, ds0, p0, q0, hargs, rfl, rfl, h0, r0⟩ := trodAll_cons hA
  obtain ⟨v1, vs1, d1, ds1, p1, q1, rfl, rfl, rfl, h1, r1⟩ := trodAll_cons r0
  obtain ⟨v2, vs2, d2, ds2, p2, q2, rfl, rfl, rfl, h2, r2⟩ := trodAll_cons r1
  obtain ⟨rfl, rfl, rfl⟩ := trodAll_nil r2
  obtain rfl : args = #[v0, v1, v2] := by cases args; simp_all
  obtain ⟨rfl, rfl⟩ := trodVars_none hV
  obtain ⟨b0, len0, cap0, rfl⟩ := okWide_slice Try.underlying28 (hval 0 28 v0 rfl rfl)
  have k0_ := h0
  have lt0 : ∀ x ∈ p0, x.block < W.heap.size := by obtain ⟨m, hm⟩ := k0_; exact DataW.trod_lt m _ _ _ hm
  obtain ⟨fu0, hf0⟩ := h0
  obtain ⟨l0, ⟨A0, c0, hc0, hle0, hr0⟩, ho0⟩ := o28 enc W fu0 _ _ _ hf0 (weight_of hsz (j := 0) rfl rfl) _ (Nat.le_refl _)
  have hc0' : (Value.slice b0 len0 cap0) = .slice A0 l0.length c0 := by injection hc0
  injection hc0' with e1_0 e2_0 e3_0
  subst e1_0 e2_0 e3_0
  obtain ⟨b1, len1, cap1, rfl⟩ := okWide_slice Try.underlying28 (hval 1 28 v1 rfl rfl)
  have k1_ := h1
  have lt1 : ∀ x ∈ p1, x.block < W.heap.size := by obtain ⟨m, hm⟩ := k1_; exact DataW.trod_lt m _ _ _ hm
  obtain ⟨fu1, hf1⟩ := h1
  obtain ⟨l1, ⟨A1, c1, hc1, hle1, hr1⟩, ho1⟩ := o28 enc W fu1 _ _ _ hf1 (weight_of hsz (j := 1) rfl rfl) _ (Nat.le_refl _)
  have hc1' : (Value.slice b1 len1 cap1) = .slice A1 l1.length c1 := by injection hc1
  injection hc1' with e1_1 e2_1 e3_1
  subst e1_1 e2_1 e3_1
  obtain ⟨b2, len2, cap2, rfl⟩ := okWide_slice Try.underlying37 (hval 2 37 v2 rfl rfl)
  have k2_ := h2
  have lt2 : ∀ x ∈ p2, x.block < W.heap.size := by obtain ⟨m, hm⟩ := k2_; exact DataW.trod_lt m _ _ _ hm
  obtain ⟨fu2, hf2⟩ := h2
  obtain ⟨l2, ⟨A2, c2, hc2, hle2, hr2⟩, ho2⟩ := o37 enc W fu2 _ _ _ hf2 (weight_of hsz (j := 2) rfl rfl) _ (Nat.le_refl _)
  have hc2' : (Value.slice b2 len2 cap2) = .slice A2 l2.length c2 := by injection hc2
  injection hc2' with e1_2 e2_2 e3_2
  subst e1_2 e2_2 e3_2
  clear hA0 hval0 hsz0 hsz
  have hcall : Calls Try.prog 8 #[.slice b0 l0.length cap0, .slice b1 l1.length cap1, .slice b2 l2.length cap2] W fun e W' => e = .returned (.bool true) ∧ Below W.heap.size W W' :=
    law_durables W b0 b1 b2 cap0 cap1 cap2 l0 l1 l2 hr0 hle0 (by have := ho0.2.1; omega) hr1 hle1 (by have := ho1.2.1; omega) hr2 (by have := ho2.2.1; omega) (fun m hm => by have := (ho2.1 m hm).1; omega)
  refine hcall.mono fun e W' ⟨he, bel0⟩ => ?_
  have bel : Below W.heap.size W W' := bel0
  subst he
  exact ⟨_, rfl, _, _, _, [], _, [], hW', trodAll_mk1 (shut_bool Try.underlying4 _), (trodAll_cons_mk (Below.trod laidOut (by kernel_rfl) (of_decide_eq_true (by kernel_rfl)) k0_ bel lt0) (trodAll_cons_mk (Below.trod laidOut (by kernel_rfl) (of_decide_eq_true (by kernel_rfl)) k1_ bel lt1) (trodAll_cons_mk (Below.trod laidOut (by kernel_rfl) (of_decide_eq_true (by kernel_rfl)) k2_ bel lt2) trodAll_mk0))), rfl, bel.frame _, fun h => by cases h⟩
theorem lifted (os : Os) (started : os.Started) (H : Type) (enc : TypeId × Value → H) :
    ReturnsInHanded {} Try.checked os 8 .any (Rows.diskDurablesSpec.pre6 enc Try.prog Try.f8 Rows.diskDurablesRow.domain false) (Rows.diskDurablesSpec.post enc Try.prog Try.f8 false true false false) := by
  refine returnsInHanded_of_change_sized (C := Try.checked) own started (by kernel_rfl) Try.func8
    (ChangeSpec.witness6 (enc := enc) (C := Try.checked) false ⟨#[], #[.slice none 0 0, .slice none 0 0, .slice none 0 0], []⟩ 8 (by kernel_rfl) (by kernel_rfl) (by kernel_rfl) (by kernel_rfl)) ?_
  intro W base args ds gs before hval0 hW hcnd hsz0 _
  exact contract H enc W base args ds gs before hval0 hW hsz0
theorem over : Rows.diskDurablesRow.holds Try.pinned (OpenSpec.ofChange Rows.diskDurablesSpec) :=
  OpenClaim.holds_of_wide 8 Try.f8 rfl rfl rfl rfl rfl rfl rfl ⟨rfl, rfl, rfl, rfl, rfl⟩ rfl rfl rfl rfl rfl (by kernel_rfl) Try.func8 (by kernel_rfl)
    (of_decide_eq_true (by kernel_rfl)) (by unfold Func.isWrapper; first | (rw [if_pos (by decide +kernel)]; kernel_rfl) | (rw [if_neg (by decide +kernel)]; exact ⟨rfl, rfl⟩))
    (fun os started H enc _ => lifted os started H enc)
theorem proved : Rows.DiskDurablesSaid := over
end Go.Proofs.Yticokogggepfoaa.diskDurables
namespace Go.Proofs.Yticokogggepfoaa
/-- The statement, under a short name, for the claim. -/
theorem diskDurables_holds : Rows.DiskDurablesSaid := diskDurables.proved
end Go.Proofs.Yticokogggepfoaa
