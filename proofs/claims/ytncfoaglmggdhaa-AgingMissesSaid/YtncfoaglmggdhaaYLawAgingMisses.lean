/- The row of AgingMisses: what its printed walk and its plain law come to. No condition. -/
import Derived.Test.YtncfoaglmggdhaaRows
import Derived.Test.YtncfoaglmggdhaaYx14
import Derived.Test.YtncfoaglmggdhaaYPureAgingMisses
import Derived.Test.YtncfoaglmggdhaaYOpen
import Derived.WalkKit
import Derived.ProofKit
import Derived.OpenShut
import Derived.ShutString
import Derived.ChangeOld
import Derived.Below
import Derived.SizedLaws
import Derived.WideShapes
namespace Go.Proofs.Ytncfoaglmggdhaa.agingMisses
open Go.ChangeShapes Go.WideShapes Go.ChangeAt Go.RowKit Go.Proofs.YtncfoaglmggdhaaW.PrintWords Go.Proofs.Ytncfoaglmggdhaa.Opn Go.Proofs.Ytncfoaglmggdhaa.Y
open Go.ChangeMaps (open_string shut_string)
set_option linter.unusedVariables false
theorem own : ownKnob Try.prog.godebug = none := by kernel_rfl
theorem laidOut : laidOutB Try.prog = true := by kernel_rfl
set_option maxRecDepth 100000 in
theorem contract (H : Type) (enc : TypeId × Value → H) (W : World) (base : Nat) (args : Array Value) (ds gs : List (DataW H)) (before : List MemPlace)
  (hval0 : ∀ (j : Nat) t v,Try.f10.params[j]? = some t → args[j]? = some v → Value.okWide Try.prog W .any base t v)
  (hW : DataW.Whole enc Try.prog Try.f10.params.toList Rows.agingMissesSpec.vars false W args.toList ds gs before)
  (hsz0 : (DataW.weightsEach Try.prog (Try.f10.params.toList ++ Rows.agingMissesSpec.plain.varTypes Try.prog) (ds ++ gs)).all (· ≤ reachBytes) = true) :
  Calls Try.prog 10 args W fun e W' => ∃ v,e = .returned v ∧ Rows.agingMissesSpec.post enc Try.prog Try.f10 false true false false W args v W' := by
 have hsz : (DataW.weightsEach Try.prog (Try.f10.params.toList ++ Rows.agingMissesSpec.plain.varTypes Try.prog) (ds ++ gs)).all (· ≤ reachBytes) = true := hsz0
 have hval : ∀ (j : Nat) t v,Try.f10.params[j]? = some t → args[j]? = some v → Value.okWide Try.prog W .any base t v := hval0
 have hW' := hW
 obtain ⟨p,q,hA0,hV,rfl,hfz,hnd⟩ := hW
 have hA : DataW.TrodAll enc Try.prog W 0 (fun _ => true) true Try.f10.params.toList args.toList ds p := hA0
 rw [Try.params10] at hA hval hsz
 obtain ⟨v0,vs0,d0,ds0,p0,q0,hargs,rfl,rfl,h0,r0⟩ := trodAll_cons hA
 obtain ⟨v1,vs1,d1,ds1,p1,q1,rfl,rfl,rfl,h1,r1⟩ := trodAll_cons r0
 obtain ⟨v2,vs2,d2,ds2,p2,q2,rfl,rfl,rfl,h2,r2⟩ := trodAll_cons r1
 obtain ⟨v3,vs3,d3,ds3,p3,q3,rfl,rfl,rfl,h3,r3⟩ := trodAll_cons r2
 obtain ⟨v4,vs4,d4,ds4,p4,q4,rfl,rfl,rfl,h4,r4⟩ := trodAll_cons r3
 obtain ⟨rfl,rfl,rfl⟩ := trodAll_nil r4
 obtain rfl : args = #[v0,v1,v2,v3,v4] := by cases args;simp_all
 obtain ⟨rfl,rfl⟩ := trodVars_none hV
 obtain ⟨b0,len0,cap0,rfl⟩ := okWide_slice Try.underlying22 (hval 0 22 v0 rfl rfl)
 have k0_ := h0
 have lt0 : ∀ x ∈ p0,x.block < W.heap.size := by obtain ⟨m,hm⟩ := k0_;exact DataW.trod_lt m _ _ _ hm
 obtain ⟨fu0,hf0⟩ := h0
 obtain ⟨l0,⟨A0,c0,hc0,hle0,hr0⟩,ho0⟩ := o22 enc W fu0 _ _ _ hf0 (weight_of hsz (j:=0) rfl rfl) _ (Nat.le_refl _)
 have hc0' : (Value.slice b0 len0 cap0) = .slice A0 l0.length c0 := by injection hc0
 injection hc0' with e1_0 e2_0 e3_0
 subst e1_0 e2_0 e3_0
 obtain ⟨cs1,rfl,_⟩ := okWide_struct Try.underlying24 (hval 1 24 v1 rfl rfl)
 have k1_ := h1
 have lt1 : ∀ x ∈ p1,x.block < W.heap.size := by obtain ⟨m,hm⟩ := k1_;exact DataW.trod_lt m _ _ _ hm
 obtain ⟨fu1,hf1⟩ := h1
 obtain ⟨x1,hk1,ho1⟩ := o24 enc W fu1 _ _ _ hf1 (weight_of hsz (j:=1) rfl rfl) _ (Nat.le_refl _)
 have hc1 := k24_open hk1
 have hc1' : cs1 = (_ : List Value).toArray := Array.toList_inj.1 hc1
 subst hc1'
 obtain ⟨a2,rfl,rfl,rfl,w2⟩ := open_int Try.underlying3 (hval 2 3 v2 rfl rfl) h2
 obtain ⟨a3,rfl,rfl,rfl,w3⟩ := open_int Try.underlying3 (hval 3 3 v3 rfl rfl) h3
 obtain ⟨b4,len4,cap4,rfl⟩ := okWide_slice Try.underlying41 (hval 4 41 v4 rfl rfl)
 have k4_ := h4
 have lt4 : ∀ x ∈ p4,x.block < W.heap.size := by obtain ⟨m,hm⟩ := k4_;exact DataW.trod_lt m _ _ _ hm
 obtain ⟨fu4,hf4⟩ := h4
 obtain ⟨l4,⟨A4,c4,hc4,hle4,hr4⟩,ho4⟩ := o41 enc W fu4 _ _ _ hf4 (weight_of hsz (j:=4) rfl rfl) _ (Nat.le_refl _)
 have hc4' : (Value.slice b4 len4 cap4) = .slice A4 l4.length c4 := by injection hc4
 injection hc4' with e1_4 e2_4 e3_4
 subst e1_4 e2_4 e3_4
 clear hA0 hval0 hsz0 hsz
 obtain ⟨k_,h_⟩ := AgingMisses_pure _ _ _ l0 x1 a2 a3 l4 ho0 ho1 w2 w3 ho4
 refine (arrearslaw10_AgingMisses.calls k_ _ _ l0 x1.f0 x1.f1 a2 a3 _ _ l4 true W hr0 hle0 hr4 hle4 h_).mono fun e W' ⟨he,bel0⟩ => ?_
 have bel : Below W.heap.size W W' := bel0
 subst he
 exact ⟨_,rfl,_,_,_, [],_, [],hW',trodAll_mk1 (shut_bool Try.underlying4 _),(trodAll_cons_mk (Below.trod laidOut (by kernel_rfl) (of_decide_eq_true (by kernel_rfl)) k0_ bel lt0) (trodAll_cons_mk (Below.trod laidOut (by kernel_rfl) (of_decide_eq_true (by kernel_rfl)) k1_ bel lt1) (trodAll_cons_mk (shut_int Try.underlying3 w2) (trodAll_cons_mk (shut_int Try.underlying3 w3) (trodAll_cons_mk (Below.trod laidOut (by kernel_rfl) (of_decide_eq_true (by kernel_rfl)) k4_ bel lt4) trodAll_mk0))))),rfl,bel.frame _,fun h => by cases h⟩
theorem lifted (os : Os) (started : os.Started) (H : Type) (enc : TypeId × Value → H) :
  ReturnsInHanded {} Try.checked os 10 .any (Rows.agingMissesSpec.pre6 enc Try.prog Try.f10 Rows.agingMissesRow.domain false) (Rows.agingMissesSpec.post enc Try.prog Try.f10 false true false false) := by
 refine returnsInHanded_of_change_sized (C:=Try.checked) own started (by kernel_rfl) Try.func10
  (ChangeSpec.witness6 (enc:=enc) (C:=Try.checked) false ⟨#[],#[.slice none 0 0, .agg #[(.int .i64 0),(.int .i64 0)], .int .i64 0, .int .i64 0, .slice none 0 0], []⟩ 8 (by kernel_rfl) (by kernel_rfl) (by kernel_rfl) (by kernel_rfl)) ?_
 intro W base args ds gs before hval0 hW hcnd hsz0 _
 exact contract H enc W base args ds gs before hval0 hW hsz0
theorem over : Rows.agingMissesRow.holds Try.pinned (OpenSpec.ofChange Rows.agingMissesSpec) :=
 OpenClaim.holds_of_wide 10 Try.f10 rfl rfl rfl rfl rfl rfl rfl ⟨rfl,rfl,rfl,rfl,rfl⟩ rfl rfl rfl rfl rfl (by kernel_rfl) Try.func10 (by kernel_rfl)
  (of_decide_eq_true (by kernel_rfl)) (by unfold Func.isWrapper;first | (rw [if_pos (by decide +kernel)];kernel_rfl) | (rw [if_neg (by decide +kernel)];exact ⟨rfl,rfl⟩))
  (fun os started H enc _ => lifted os started H enc)
theorem proved : Rows.AgingMissesSaid := over
end Go.Proofs.Ytncfoaglmggdhaa.agingMisses
namespace Go.Proofs.Ytncfoaglmggdhaa
/-- The statement, under a short name, for the claim. -/
theorem agingMisses_holds : Rows.AgingMissesSaid := agingMisses.proved
end Go.Proofs.Ytncfoaglmggdhaa
