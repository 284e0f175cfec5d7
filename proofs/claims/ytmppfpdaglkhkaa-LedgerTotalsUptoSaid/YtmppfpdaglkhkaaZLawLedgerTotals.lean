/- The row of LedgerTotals (what it reads is of bulk at most 1048576): what its printed walk and its plain law come to. No condition. -/
import Derived.Test.YtmppfpdaglkhkaaRows
import Derived.Test.YtmppfpdaglkhkaaZx3
import Derived.Test.YtmppfpdaglkhkaaZPureLedgerTotals
import Derived.Test.YtmppfpdaglkhkaaZOpen
import Derived.WalkKit
import Derived.ProofKit
import Derived.OpenShut
import Derived.ShutString
import Derived.ChangeOld
import Derived.Below
import Derived.SizedLaws
import Derived.WideShapes
import Derived.Deep.CondSized
import Derived.JoinedCond
namespace Go.Proofs.Ytmppfpdaglkhkaa.ledgerTotals
open Go.ChangeShapes Go.WideShapes Go.ChangeAt Go.RowKit Go.Proofs.YtmppfpdaglkhkaaW.PrintWords Go.Proofs.Ytmppfpdaglkhkaa.Opn Go.Proofs.Ytmppfpdaglkhkaa.Z
open Go.ChangeMaps (open_string shut_string)
set_option linter.unusedVariables false
theorem own : ownKnob Try.prog.godebug = none := by kernel_rfl
theorem laidOut : laidOutB Try.prog = true := by kernel_rfl
set_option maxRecDepth 100000 in
theorem contract (H : Type) (enc : TypeId × Value → H) (W : World) (base : Nat) (args : Array Value) (ds gs : List (DataW H)) (before : List MemPlace)
  (hval0 : ∀ (j : Nat) t v,Try.f4.params[j]? = some t → args[j]? = some v → Value.okWide Try.prog W .any base t v)
  (hW : DataW.Whole enc Try.prog Try.f4.params.toList Rows.ledgerTotalsSpec.vars false W args.toList ds gs before)
  (hsz0 : (DataW.weightsEach Try.prog (Try.f4.params.toList ++ Rows.ledgerTotalsSpec.plain.varTypes Try.prog) (ds ++ gs)).all (· ≤ reachBytes) = true) (hk : Rows.uptoSmall H (ds ++ gs) = true) :
  Calls Try.prog 4 args W fun e W' => ∃ v,e = .returned v ∧ Rows.ledgerTotalsSpec.post enc Try.prog Try.f4 false true false false W args v W' := by
 have hsz : (DataW.weightsEach Try.prog (Try.f4.params.toList ++ Rows.ledgerTotalsSpec.plain.varTypes Try.prog) (ds ++ gs)).all (· ≤ reachBytes) = true := hsz0
 have hval : ∀ (j : Nat) t v,Try.f4.params[j]? = some t → args[j]? = some v → Value.okWide Try.prog W .any base t v := hval0
 have hW' := hW
 obtain ⟨p,q,hA0,hV,rfl,hfz,hnd⟩ := hW
 have hA : DataW.TrodAll enc Try.prog W 0 (fun _ => true) true Try.f4.params.toList args.toList ds p := hA0
 rw [Try.params4] at hA hval hsz
 obtain ⟨v0,vs0,d0,ds0,p0,q0,hargs,rfl,rfl,h0,r0⟩ := trodAll_cons hA
 obtain ⟨rfl,rfl,rfl⟩ := trodAll_nil r0
 obtain rfl : args = #[v0] := by cases args;simp_all
 obtain ⟨rfl,rfl⟩ := trodVars_none hV
 obtain ⟨b0,len0,cap0,rfl⟩ := okWide_slice Try.underlying29 (hval 0 29 v0 rfl rfl)
 have k0_ := h0
 have lt0 : ∀ x ∈ p0,x.block < W.heap.size := by obtain ⟨m,hm⟩ := k0_;exact DataW.trod_lt m _ _ _ hm
 obtain ⟨fu0,hf0⟩ := h0
 obtain ⟨l0,⟨A0,c0,hc0,hle0,hr0⟩,ho0⟩ := o29 enc W fu0 _ _ _ hf0 (weight_of hsz (j:=0) rfl rfl) _ (bulk_small hk (j:=0) rfl)
 have hc0' : (Value.slice b0 len0 cap0) = .slice A0 l0.length c0 := by injection hc0
 injection hc0' with e1_0 e2_0 e3_0
 subst e1_0 e2_0 e3_0
 clear hA0 hval0 hsz0 hsz
 obtain ⟨k_,h_⟩ := LedgerTotals_pure l0 ho0
 refine (arrearslaw8_LedgerTotals.calls k_ _ _ l0 true W hr0 hle0 h_).mono fun e W' ⟨he,bel0⟩ => ?_
 have bel : Below W.heap.size W W' := bel0
 subst he
 exact ⟨_,rfl,_,_,_, [],_, [],hW',trodAll_mk1 (shut_bool Try.underlying4 _),(trodAll_cons_mk (Below.trod laidOut (by kernel_rfl) (of_decide_eq_true (by kernel_rfl)) k0_ bel lt0) trodAll_mk0),rfl,bel.frame _,fun h => by cases h⟩
set_option maxRecDepth 100000 in
theorem lifted (os : Os) (started : os.Started) (H : Type) (enc : TypeId × Value → H) (F : Stop.Interp) :
  ReturnsInHanded {} Try.checked os 4 .any ((Rows.OpenSpec.upto Rows.ledgerTotalsSpec).pre6 enc Try.prog Try.f4 Rows.ledgerTotalsUptoRow.domain false) (((Rows.OpenSpec.upto Rows.ledgerTotalsSpec).at F).post enc Try.prog Try.f4 false true false false) := by
 refine returnsInHanded_of_cond_sized (C:=Try.checked) (s:=(Rows.OpenSpec.upto Rows.ledgerTotalsSpec)) (k:=Rows.uptoSmall) rfl own started (by kernel_rfl) Try.func4
  (OpenSpec.witness (enc:=enc) (C:=Try.checked) (s:=(Rows.OpenSpec.upto Rows.ledgerTotalsSpec)) (k:=Rows.uptoSmall) rfl false ⟨#[],#[.slice none 0 0], []⟩ 8 (by kernel_rfl) (by kernel_rfl) (by kernel_rfl)
   (x:=([.nil], [], [])) (by kernel_rfl) rfl (by kernel_rfl)) ?_
 intro W base args ds gs before hval0 hW _ hk hsz0 _
 exact contract H enc W base args ds gs before hval0 hW hsz0 hk
theorem over : Rows.ledgerTotalsUptoRow.holds Try.pinned (Rows.OpenSpec.upto Rows.ledgerTotalsSpec) :=
 OpenClaim.holds_of_cond 4 Try.f4 rfl rfl rfl rfl rfl rfl rfl ⟨rfl,rfl,rfl,rfl,rfl⟩ rfl rfl rfl rfl rfl (by kernel_rfl) Try.func4 (by kernel_rfl)
  (of_decide_eq_true (by kernel_rfl)) (by unfold Func.isWrapper;first | (rw [if_pos (by decide +kernel)];kernel_rfl) | (rw [if_neg (by decide +kernel)];exact ⟨rfl,rfl⟩))
  (fun os started H enc _ F => lifted os started H enc F)
theorem proved : Rows.LedgerTotalsUptoSaid := over
end Go.Proofs.Ytmppfpdaglkhkaa.ledgerTotals
namespace Go.Proofs.Ytmppfpdaglkhkaa
/-- The statement, under a short name, for the claim. -/
theorem ledgerTotalsUpto_holds : Rows.LedgerTotalsUptoSaid := ledgerTotals.proved
end Go.Proofs.Ytmppfpdaglkhkaa
