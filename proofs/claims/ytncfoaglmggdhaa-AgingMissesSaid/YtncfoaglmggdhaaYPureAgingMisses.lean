/- AgingMisses: of all plans, positions, days and rows the law's answer is true: Missed and Mark are the document's, and so is every answer of a plan that was written over. No condition beyond the lists' bulk. -/
import Derived.Test.YtncfoaglmggdhaaYAgeC
import Derived.Test.YtncfoaglmggdhaaYx14
namespace Go.Proofs.Ytncfoaglmggdhaa.Y
open Go.RowKit Go.Proofs.YtncfoaglmggdhaaW.PrintWords Go.Proofs.YtncfoaglmggdhaaW.PrintLast Go.Proofs.YtncfoaglmggdhaaW.PrintMore
set_option linter.unusedVariables false
set_option linter.unusedSimpArgs false
theorem alone_loop (L : List Int) (hL : L.length ≤ 400) (R : Nat) (hR : 1000 < R) : ∀ (d i : Nat) (x : List Int),i + d = L.length → x.length = L.length → arrearslaw10_alone.l0 (d + 1 + R) x L L (i : Int) = some true := by
 intro d
 induction d with
 | zero =>
  intro i x h hx
  have e : (x ++ List.replicate 64 (0 : Int)).length = L.length + 64 := by rw [List.length_append,List.length_replicate,hx]
  have e2 : (((L.length + 64 : Nat) : Int) == wrap64 ((L.length : Int) + 64)) = true := by rw [pl_w64 (by omega) (by omega),beq_iff_eq];omega
  rw [show 0 + 1 + R = R + 1 by omega,arrearslaw10_alone.l0,if_neg (by omega),if_pos (by omega),sameRows_self L hL R (by omega),Option.bind_some,if_pos rfl,e,e2]
 | succ d ih =>
  intro i x h hx
  rw [show d + 1 + 1 + R = (d + 1 + R) + 1 by omega,arrearslaw10_alone.l0,if_pos (by omega),if_pos (by omega),pl_w64 (x:=(i : Int) + 1) (by omega) (by omega),show (i : Int) + 1 = ((i + 1 : Nat) : Int) by omega]
  exact ih (i + 1) _ (by omega) (by rw [List.length_set,hx])
theorem alone_true (L : List Int) (hL : L.length ≤ 400) (k : Nat) (hk : 2000 < k) : arrearslaw10_alone.f k L L L = some true := by
 obtain ⟨R,rfl⟩ : ∃ R,k = L.length + 1 + R := ⟨k - (L.length + 1),by omega⟩
 exact alone_loop L hL R (by omega) L.length 0 L (by omega) rfl
theorem marks_loop (M : List Row) (hM : M.length ≤ 400) (R : Nat) (hR : 1000 < R) : ∀ (d i : Nat) (x : List Row),i + d = M.length → x.length = M.length → arrearslaw10_marksRight.l0 (d + 1 + R) M x M (i : Int) = some true := by
 intro d
 induction d with
 | zero =>
  intro i x h hx
  have e : (x ++ List.replicate 64 z31).length = M.length + 64 := by rw [List.length_append,List.length_replicate,hx]
  have e2 : (((M.length + 64 : Nat) : Int) == wrap64 ((M.length : Int) + 64)) = true := by rw [pl_w64 (by omega) (by omega),beq_iff_eq];omega
  rw [show 0 + 1 + R = R + 1 by omega,arrearslaw10_marksRight.l0,if_neg (by omega),if_pos (by omega),samePlan_self M hM R (by omega),Option.bind_some,if_pos rfl,e,e2]
 | succ d ih =>
  intro i x h hx
  rw [show d + 1 + 1 + R = (d + 1 + R) + 1 by omega,arrearslaw10_marksRight.l0,if_pos (by omega),if_pos (by omega),pl_w64 (x:=(i : Int) + 1) (by omega) (by omega),show (i : Int) + 1 = ((i + 1 : Nat) : Int) by omega]
  exact ih (i + 1) _ (by omega) (by rw [List.length_set,hx])
theorem marks_true (l : List Row) (hl : l.length ≤ 400) (is : List Int) (k : Nat) (hk : 3000 < k) : arrearslaw10_marksRight.f k l is (aging_Mark.markAll l is) = some true := by
 have hal := all_len is l
 obtain ⟨R,rfl⟩ : ∃ R,k = ((aging_Mark.markAll l is).length + 1 + R) + 1 := ⟨k - ((aging_Mark.markAll l is).length + 2),by omega⟩
 unfold arrearslaw10_marksRight.f
 rw [pmark_is l hl is,Option.bind_some,Option.bind_some,samePlan_self _ (by omega) _ (by omega),Option.bind_some,if_pos rfl,Option.bind_some,Bool.not_true,arrearslaw10_marksRight.j0,if_neg (by simp)]
 exact marks_loop _ (by omega) R (by omega) _ 0 _ (by omega) rfl
theorem asked_true (l : List Row) (hw : rowsOk l) (hl : l.length ≤ 400) (A R t g : Int) (hA : A ≤ 9223372036854775807) (ht : t ≤ 9223372036854775807) (is : List Int) (hi : is.length ≤ 400) (k : Nat) (hk : 300000 < k) : arrearslaw10_asked.f k l A R t g is = some true := by
 obtain ⟨k',hk'⟩ : ∃ m,k = m + 2 := ⟨k - 2,by omega⟩
 obtain ⟨q1,a1,b1⟩ := oldest_same l hw hl A R hA k (by omega)
 obtain ⟨q2,a2,b2⟩ := reach_same l hw hl A R hA k (by omega) t g
 obtain ⟨q3,a3,b3⟩ := satisfied_same l hw hl A R hA k (by omega)
 obtain ⟨q4,a4,b4⟩ := days_same l hw hl A R hA (k' + 1) (by omega) t ht
 obtain ⟨q5,a5,b5⟩ := pastdue_same l hw hl A R hA (k' + 1) (by omega) t
 obtain ⟨q6,a6,b6,l6⟩ := missed_same l hw hl A R hA k' (by omega) t g ht
 have hal := all_len is l
 unfold arrearslaw10_asked.f
 rw [copied_is l hl,Option.bind_some,a1,Option.bind_some,b1,Option.bind_some,a2,Option.bind_some,b2,Option.bind_some,if_pos rfl,if_neg (by simp),if_pos rfl,if_neg (by simp),a3,Option.bind_some,b3,Option.bind_some,show (q3 != q3) = false by simp,hk',arrearslaw10_asked.j0,if_neg (by simp),a4,Option.bind_some,b4,Option.bind_some,if_pos rfl,a5,Option.bind_some,b5,Option.bind_some,show (q5 != q5) = false by simp,
  arrearslaw10_asked.j1,if_neg (by simp),a6,Option.bind_some,b6,Option.bind_some,sameRows_self q6 l6 k' (by omega),Option.bind_some,if_pos rfl,pmark_is l hl is,Option.bind_some,rmark_is l hl is hi k' (by omega),Option.bind_some,samePlan_self _ (by omega) k' (by omega),Option.bind_some]
theorem wf_wrap (x : Int) : (Lit.int .i64 (wrap64 x)).wf = true := by
 have h : -9223372036854775808 ≤ wrap64 x ∧ wrap64 x ≤ 9223372036854775807 := by unfold wrap64;omega
 simp [Lit.wf,IntKind.min,IntKind.max,IntKind.bits,IntKind.signed]
 omega
theorem anew_loop (l : List Row) (hw : rowsOk l) (hl : l.length ≤ 400) (A R t g : Int) (hA : A ≤ 9223372036854775807) (ht : t ≤ 9223372036854775807) (is : List Int) (hi : is.length ≤ 400) (K : Nat) (hK : 300000 < K) : ∀ (d i : Nat) (x : List Row),i + d = l.length → x.length = l.length → rowsOk x →
  arrearslaw10_anew.l0 (d + 1 + K) l t g is x (i : Int) A R = some true := by
 intro d
 induction d with
 | zero =>
  intro i x h hx hox
  rw [show 0 + 1 + K = K + 1 by omega,arrearslaw10_anew.l0,if_neg (by omega),asked_true x hox (by omega) A R t g hA ht is hi K hK,Option.bind_some]
 | succ d ih =>
  intro i x h hx hox
  rw [show d + 1 + 1 + K = (d + 1 + K) + 1 by omega,arrearslaw10_anew.l0,if_pos (by omega),if_pos (by omega),if_pos (by omega),pl_w64 (x:=(i : Int) + 1) (by omega) (by omega),show (i : Int) + 1 = ((i + 1 : Nat) : Int) by omega]
  refine ih (i + 1) _ (by omega) (by rw [List.length_set,hx]) ?_
  intro r hr
  rcases List.mem_or_eq_of_mem_set hr with h1 | h1
  ·
   exact hox r h1
  ·
   subst h1
   have h2 : WF31 0 (rr l (i : Int)) := by rw [rr_at l i (by omega)];exact hw _ (List.getElem_mem _)
   unfold WF31 at h2 ⊢
   exact ⟨h2.1,wf_wrap _,wf_wrap _⟩
theorem anew_true (l : List Row) (hw : rowsOk l) (hl : l.length ≤ 400) (A R t g : Int) (hA : A ≤ 9223372036854775807) (ht : t ≤ 9223372036854775807) (is : List Int) (hi : is.length ≤ 400) (k : Nat) (hk : 400000 < k) : arrearslaw10_anew.f k l A R t g is = some true := by
 obtain ⟨K,hK⟩ : ∃ K,k = l.length + 1 + K := ⟨k - (l.length + 1),by omega⟩
 unfold arrearslaw10_anew.f
 rw [copied_is l hl,Option.bind_some,asked_true l hw hl A R t g hA ht is hi k (by omega),Option.bind_some,if_pos rfl,hK]
 exact anew_loop l hw hl A R t g hA ht is hi K (by omega) l.length 0 l (by omega) rfl hw
theorem misses_main (l : List Row) (hw : rowsOk l) (hl : l.length ≤ 400) (A R t g : Int) (hA : A ≤ 9223372036854775807) (ht : t ≤ 9223372036854775807) (is : List Int) (hi : is.length ≤ 400) (k : Nat) (hk : 500000 < k) : arrearslaw10_AgingMisses.j0 k l t g is false A R = some true := by
 obtain ⟨K,hK⟩ : ∃ K,k = K + 1 := ⟨k - 1,by omega⟩
 obtain ⟨q,a,b,lq⟩ := missed_same l hw hl A R hA K (by omega) t g ht
 have e1 : (l ++ [(⟨(-901),0,0,false⟩ : Row)]).take l.length = l := List.take_left
 have e2 : rd_T31 (l ++ [(⟨(-901),0,0,false⟩ : Row)]) (l.length : Int) = ⟨(-901),0,0,false⟩ := by
  have := rr_at (l ++ [(⟨(-901),0,0,false⟩ : Row)]) l.length (by simp)
  unfold rr at this
  rw [this];simp
 rw [hK,arrearslaw10_AgingMisses.j0,if_neg (by simp),copied_is l hl,Option.bind_some,if_pos (by omega),Option.bind_some,if_pos (by omega),if_pos (by rw [List.length_append,List.length_singleton];omega),Option.bind_some,Int.toNat_natCast,e1,if_pos (by simp;omega),Option.bind_some,List.nil_append,b,Option.bind_some,a,Option.bind_some,Option.bind_some,sameRows_self q lq K (by omega),Option.bind_some,if_pos rfl,Option.bind_some,if_pos rfl,alone_true q lq K (by omega),Option.bind_some,if_pos rfl,rmark_is l hl is hi K (by omega),Option.bind_some,marks_true l hl is K (by omega),Option.bind_some,if_pos rfl,samePlan_self l hl K (by omega),Option.bind_some,if_pos rfl,sameRows_self is hi K (by omega),Option.bind_some,if_pos rfl,if_pos (by rw [List.length_append,List.length_singleton];omega),e2,if_pos rfl,anew_true l hw hl A R t g hA ht is hi K (by omega),Option.bind_some]
def AgingMisses_Pure : Prop := ∀ (B0 B1 B4 : Nat) (l0 : List (S31)) (x1 : S24) (a2 : Int) (a3 : Int) (l4 : List Int),((∀ x_ ∈ l0,WF31 B0 x_) ∧ l0.length * 32 ≤ 140737488351232 ∧ l0.length ≤ B0) → (WF24 B1 x1) → ((Lit.int .i64 a2).wf = true) → ((Lit.int .i64 a3).wf = true) → ((∀ x_ ∈ l4,(Lit.int .i64 x_).wf = true) ∧ l4.length * 8 ≤ 140737488351232 ∧ l4.length ≤ B4) → ∃ k,arrearslaw10_AgingMisses.f k l0 x1.f0 x1.f1 a2 a3 l4 = some true
theorem AgingMisses_pure : AgingMisses_Pure := by
 intro B0 B1 B4 l p t g is hl hp ht hg hi
 have hw : rowsOk l := hl.1
 have hA := wf64 hp.1
 have htt := wf64 ht
 refine ⟨600000,?_⟩
 have jt : arrearslaw10_AgingMisses.j0 600000 l t g is true p.f0 p.f1 = some true := by rw [show (600000 : Nat) = 599999 + 1 from rfl,arrearslaw10_AgingMisses.j0,if_pos rfl]
 unfold arrearslaw10_AgingMisses.f
 by_cases c : (l.length : Int) > 400
 ·
  rw [if_pos c];exact jt
 ·
  rw [if_neg c]
  by_cases c2 : (is.length : Int) > 400
  ·
   rw [decide_eq_true c2];exact jt
  ·
   rw [decide_eq_false c2]
   exact misses_main l hw (by omega) p.f0 p.f1 t g hA.2 htt.2 is (by omega) 600000 (by omega)
end Go.Proofs.Ytncfoaglmggdhaa.Y
