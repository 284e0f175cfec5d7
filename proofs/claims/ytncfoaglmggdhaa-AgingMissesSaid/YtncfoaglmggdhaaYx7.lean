import Derived.Test.YtncfoaglmggdhaaYx0
import Derived.Test.YtncfoaglmggdhaaYx2
import Derived.Test.YtncfoaglmggdhaaYx6
namespace Go.Proofs.Ytncfoaglmggdhaa.Y
open Go.RowKit Go.Proofs.YtncfoaglmggdhaaW.PrintWords Go.Proofs.YtncfoaglmggdhaaW.PrintLast Go.Proofs.YtncfoaglmggdhaaW.PrintMore
attribute [local go_sem] max2_int min2_int max_two min_two max_three min_three max_four min_four   -- for this text's walks alone
set_option linter.unusedVariables false
set_option linter.unusedSimpArgs false

/-! ### arrearslaw10_alone: function 25 -/
def arrearslaw10_alone.l0 : Nat → List Int → List Int → List Int → Int → Option (Bool)
 | 0,_,_,_,_ => none
 | k + 1,x0,x1,x2,x7 => if x7 < (x0.length : Int) then (if 0 ≤ x7 then (arrearslaw10_alone.l0 k (x0.set (x7 : Int).toNat (-5)) x1 x2 (wrap64 (x7 + 1))) else (none)) else (if x0.length + 64 < 17592186044416 then ((arrearslaw10_sameRows.f k x1 x2).bind fun t171 => (if t171 = true then (some (((x0 ++ List.replicate 64 0).length : Int) == (wrap64 ((x2.length : Int) + 64)))) else (some false))) else (none))
def arrearslaw10_alone.f (k : Nat) (l0 : List Int) (l1 : List Int) (l2 : List Int) : Option (Bool) := arrearslaw10_alone.l0 k l0 l1 l2 0
theorem arrearslaw10_alone.mono_l : ∀ k,(∀ y0 y1 y2 y3,LeO (arrearslaw10_alone.l0 k y0 y1 y2 y3) (arrearslaw10_alone.l0 (k + 1) y0 y1 y2 y3))
 | 0 => fun _ _ _ _ r h => by simp [arrearslaw10_alone.l0] at h
 | k + 1 => by
  have ih0 := arrearslaw10_alone.mono_l k
  ·
   intro y0 y1 y2 y3
   unfold arrearslaw10_alone.l0
   repeat' first
   | (with_reducible exact ih0 _ _ _ _)
   | (with_reducible exact arrearslaw10_sameRows.mono _ _ _)
   | (with_reducible exact LeO.refl _)
   | (with_reducible exact LeO.none _)
   | (with_reducible refine LeO.ite ?_ ?_)
   | (with_reducible refine LeO.bind ?_ (fun _ => ?_))
   | exact ih0 _ _ _ _
   | exact arrearslaw10_sameRows.mono _ _ _
   | exact LeO.none _
   | refine LeO.ite ?_ ?_
   | refine LeO.bind ?_ (fun _ => ?_)
theorem arrearslaw10_alone.mono : ∀ a0 a1 a2 k,LeO (arrearslaw10_alone.f k a0 a1 a2) (arrearslaw10_alone.f (k + 1) a0 a1 a2) := by
 intro a0 a1 a2 k
 have ih0 := arrearslaw10_alone.mono_l k
 unfold arrearslaw10_alone.f
 repeat' first
   | (with_reducible exact ih0 _ _ _ _)
   | (with_reducible exact arrearslaw10_sameRows.mono _ _ _)
   | (with_reducible exact LeO.refl _)
   | (with_reducible exact LeO.none _)
   | (with_reducible refine LeO.ite ?_ ?_)
   | (with_reducible refine LeO.bind ?_ (fun _ => ?_))
   | exact ih0 _ _ _ _
   | exact arrearslaw10_sameRows.mono _ _ _
   | exact LeO.none _
   | refine LeO.ite ?_ ?_
   | refine LeO.bind ?_ (fun _ => ?_)
set_option maxHeartbeats 8000000 in
set_option maxRecDepth 100000 in
theorem arrearslaw10_alone.calls (k : Nat) (P0_ : Nat → Prop) (u9000_ : Value) (l0 : List Int) (A1 : Option Addr) (c1 : Nat) (l1 : List Int) (A2 : Option Addr) (c2 : Nat) (l2 : List Int) (r : Bool) (w0 w : World) (hB : Below w0.heap.size w0 w) (ho0 : Kd.R (Kd.int .i64) 3 w w0.heap.size P0_ u9000_ l0) (hr1 : ∀ W_,Kept w W_ (fun k_ => P0_ k_) → Kd.C (Kd.int .i64) W_ A1 l1.length l1) (hc1 : l1.length ≤ c1) (hr2 : ∀ W_,Kept w W_ (fun k_ => P0_ k_) → Kd.C (Kd.int .i64) W_ A2 l2.length l2) (hc2 : l2.length ≤ c2) (h : arrearslaw10_alone.f k l0 l1 l2 = some r) :
  Calls Try.prog 25 #[u9000_, .slice A1 l1.length c1, .slice A2 l2.length c2] w fun e w' => e = .returned (.bool r) ∧ Below w0.heap.size w0 w' ∧ Kept w w' (fun k_ => P0_ k_) := by
 have HO0 := Aside0.mk (show Kd.R (Kd.int .i64) 3 w w0.heap.size (fun k_ => (P0_ k_ ∨ w.heap.size ≤ k_)) u9000_ l0 from Kd.R_mono ho0 (fun k_ hk => (.inl hk)))
 have HR1 := Aside0.mk hr1
 have HC1 := Aside0.mk hc1
 clear hr1 hc1
 have HR2 := Aside0.mk hr2
 have HC2 := Aside0.mk hc2
 clear hr2 hc2
 have HK := Aside0.mk (Kept.refl w (fun k_ => P0_ k_))
 have HW0 := Aside0.mk hB.size
 have HB := Aside0.mk hB
 clear hB
 have H : (arrearslaw10_alone.l0 k l0 l1 l2 0) = some r := h
 clear h
 have H' := Aside0.mk H
 clear H
 go_enter Try.func25,Try.ntmps25
 go_wp2
 go_loopg [7] k (fun kq v7 w' => ∃ (x0_1 : List Int) (x7_1 : Int),v7 = .int .i64 x7_1 ∧ Aside0 (arrearslaw10_alone.l0 kq x0_1 l1 l2 x7_1 = some r) ∧ Aside0 (kq ≤ k) ∧ Aside0 (Kd.R (Kd.int .i64) 3 w' w0.heap.size (fun k_ => (P0_ k_ ∨ w.heap.size ≤ k_)) u9000_ x0_1) ∧ Aside0 (Kept w w' (fun k_ => P0_ k_)) ∧ Aside0 (Below w0.heap.size w0 w'))
 case atStart => exact ⟨(l0),(0),(by first | rfl | (simp;done) | (simp [*];done)),H',⟨Nat.le_refl _⟩,⟨by (with_reducible repeat (first | apply Kd.R_alloc | apply Kd.R_drewN | apply Kd.R_drew));exact HO0.out⟩,⟨by repeat (first | (with_reducible first | exact HK.out | apply Kept.alloc | apply Kept.drewN | apply Kept.drew) | exact HK.out)⟩,⟨by repeat (first | (with_reducible first | exact HB.out | apply below_alloc | apply pw_below_drewN | apply below_drew1) | exact HB.out)⟩⟩
 case round =>
  clear H'
  try clear c1
  try clear c2
  try clear p2
  obtain ⟨x0_1,x7_1,rfl,HA,HK1,HO_0,HK,HB⟩ := hrel
  cases gk with
  | zero => exact absurd HA.out (by simp [arrearslaw10_alone.l0])
  | succ k1 =>
   have H := HA.out
   clear HA
   simp only [arrearslaw10_alone.l0] at H
   by_cases c4 : x7_1 < (x0_1.length : Int)
   ·
    rw [if_pos c4] at H
    have c4b0 : decide (x7_1 < (x0_1.length : Int)) = true := decide_eq_true c4
    clear c4
    by_cases c5 : 0 ≤ x7_1
    ·
     rw [if_pos c5] at H
     have c5b0 : decide (0 ≤ x7_1) = true := decide_eq_true c5
     clear c5
     obtain ⟨y167,hy167⟩ : ∃ y_ : List Int,y_ = (x0_1.set (x7_1 : Int).toNat (-5)) := ⟨_,rfl⟩
     replace H : (arrearslaw10_alone.l0 k1 y167 l1 l2 (wrap64 (x7_1 + 1))) = some r := by first | (rw [hy167];with_reducible exact H) | (have H2_ := (Option.bind_some _ _).symm.trans H;rw [hy167];with_reducible exact H2_) | (have H2_ := (Option.bind_some _ _).symm.trans H;with_reducible exact H2_) | with_reducible exact H | (rw [hy167];exact H) | exact H
     have Ny167 := Aside0.mk hy167
     clear hy167
     have H' := Aside0.mk H
     clear H
     obtain ⟨Ao7,co7,eo7⟩ := Kd.R_slice HO_0.out
     subst eo7
     have p6 : 0 ≤ (x7_1 : Int) := of_decide_eq_true (by first | (with_reducible assumption) | assumption)
     have q6 : (x7_1 : Int) < ((x0_1.length : Int) : Int) := of_decide_eq_true (by first | (with_reducible assumption) | assumption)
     obtain ⟨go6,co6,eo6,gb6,gl6,cl6,HG6⟩ := Kd.R_form HO_0.out (by omega)
     (first | cases eo6 | (injection eo6 with ea_ en_ ec_;(first | subst ea_ | (injection ea_ with ea_;subst ea_));subst ec_;clear en_))
     have GB6 := Aside0.mk gb6
     have GG6 := Aside0.mk HG6
     clear gb6 gl6 HG6
     have HMgo6 := Aside0.mk (show (P0_ go6 ∨ w.heap.size ≤ go6) from (HO_0.out.1 _ rfl))
     obtain ⟨hx6_0,hf6_0⟩ := Kd.R_celln 0 HO_0.out (x7_1 : Int) p6 q6
     replace p6 := eq_true p6
     replace q6 := eq_true q6
     have HP8 := Kd.R_putg HO_0.out (x7_1 : Int) (-5)
     go_wp2_with (first | ((with_reducible refine gate_store (t:=3) (p:=17) rfl ?_);refine store_event (t:=3) (p:=17) (v:=?vo_w9) (w1:=(wr.setCell ⟨go6,(x7_1 : Int).toNat,none⟩ (.int .i64 (-5)))) ?hg ?ho ?hn ?hr ?_;(case ho => rfl);(case hg => rfl);(case hn => rfl);(case hr => first | (go_simp;done) | (go_simp;rfl));intro w9 hw;have hg : wr.grownBy w9 (some go6) := (by rw [hw];exact HP8.2);have hp_ : Kd.R (Kd.int .i64) 3 w9 w0.heap.size (fun k_ => (P0_ k_ ∨ w.heap.size ≤ k_)) (.slice (some ⟨go6,0,none⟩) x0_1.length co7) y167 := (by rw [hw,Ny167.out];exact HP8.1);clear HP8;have n0_ := Aside0.mk (hp_);have n1_ := Aside0.mk ((by rw [hw];exact below_set (HB.out) GB6.out : Below w0.heap.size w0 w9));have n2_ := Aside0.mk (Kept.of_grown (S:=(fun k_ => P0_ k_)) hg (by repeat (first | (with_reducible first | exact HK.out | apply Kept.alloc | apply Kept.drewN | apply Kept.drew) | exact HK.out)) (fun k_ e_ => (HO_0.out.1 k_ e_)));clear HO_0;clear HB;clear HK;have HO_0 := n0_;have HB := n1_;have HK := n2_;clear n0_ n1_ n2_;clear hg hw hp_))
     go_roundg k1
     case measure => have := HK1.out;omega
     case rel => exact ⟨(y167),(wrap64 (x7_1 + 1)),(by first | rfl | (simp;done) | (simp [*];done)),H',⟨by have := HK1.out;omega⟩,⟨by (with_reducible repeat (first | apply Kd.R_alloc | apply Kd.R_drewN | apply Kd.R_drew));exact HO_0.out⟩,⟨by repeat (first | (with_reducible first | exact HK.out | apply Kept.alloc | apply Kept.drewN | apply Kept.drew) | exact HK.out)⟩,⟨by repeat (first | (with_reducible first | exact HB.out | apply below_alloc | apply pw_below_drewN | apply below_drew1) | exact HB.out)⟩⟩
    ·
     rw [if_neg c5] at H
     exact absurd H (by simp)
   ·
    rw [if_neg c4] at H
    have c4b0 : decide (x7_1 < (x0_1.length : Int)) = false := decide_eq_false c4
    clear c4
    by_cases c10 : x0_1.length + 64 < 17592186044416
    ·
     rw [if_pos c10] at H
     have LMc10 := Aside0.mk c10
     clear c10
     obtain ⟨y168,hy168⟩ : ∃ y_ : List Int,y_ = (x0_1 ++ List.replicate 64 0) := ⟨_,rfl⟩
     replace H : ((arrearslaw10_sameRows.f k1 l1 l2).bind fun t171 => (if t171 = true then (some ((y168.length : Int) == (wrap64 ((l2.length : Int) + 64)))) else (some false))) = some r := by first | (rw [hy168];with_reducible exact H) | (have H2_ := (Option.bind_some _ _).symm.trans H;rw [hy168];with_reducible exact H2_) | (have H2_ := (Option.bind_some _ _).symm.trans H;with_reducible exact H2_) | with_reducible exact H | (rw [hy168];exact H) | exact H
     have Ny168 := Aside0.mk hy168
     clear hy168
     replace H := Option.bind_eq_some_iff.mp H
     obtain ⟨t171,A110,H⟩ := H
     replace H : (if t171 = true then (some ((y168.length : Int) == (wrap64 ((l2.length : Int) + 64)))) else (some false)) = some r := H
     have A11 := Aside0.mk A110
     clear A110
     by_cases c12 : t171 = true
     ·
      subst c12
      have H1 : (some ((y168.length : Int) == (wrap64 ((l2.length : Int) + 64)))) = some r := by rw [if_pos rfl] at H;exact H
      clear H
      have H := H1
      clear H1
      obtain rfl := Option.some.inj H
      obtain ⟨Ao13,co13,eo13⟩ := Kd.R_slice HO_0.out
      subst eo13
      go_wp2_with (first | (at_builtin;refine Kd.R_append_zeros (Kd.int .i64) (w0:=w0) w0.heap.size rfl (.tmp 18) (.const (.int .i64 64)) 41 3 3 (.int .i64 0) 8 rfl Try.underlying41 Try.underlying3 info3 rfl (by decide) (by omega) (.slice Ao13 x0_1.length co13) x0_1 0 (64 : Int) (fun k_ => (P0_ k_ ∨ w.heap.size ≤ k_)) rfl rfl rfl ?aF ?aO (by omega) ?aB ?aS ?aL ?_;(case aB => exact (by repeat (first | (with_reducible first | exact HB.out | apply below_alloc | apply pw_below_drewN | apply below_drew1) | exact HB.out)));(case aF => exact (fun k_ hk => (.inr (Nat.le_trans (by first | exact HK.out.1 | exact (show Kept w _ (fun k_ => P0_ k_) from by repeat (first | (with_reducible first | exact HK.out | apply Kept.alloc | apply Kept.drewN | apply Kept.drew) | exact HK.out)).1) hk))));(case aO => exact (by (with_reducible repeat (first | apply Kd.R_alloc | apply Kd.R_drewN | apply Kd.R_drew));exact HO_0.out));(case aS => exact (below_size (by repeat (first | (with_reducible first | exact HB.out | apply below_alloc | apply pw_below_drewN | apply below_drew1) | exact HB.out))));(case aL => have := LMc10.out;omega);intro v169 w14 ho hb hg hat;(first | rw [← Ny168.out] at ho | (simp only [Int.reduceToNat] at ho;rw [← Ny168.out] at ho));have n0_ := Aside0.mk (hb);have n1_ := Aside0.mk (Kept.of_grown (S:=(fun k_ => P0_ k_)) hg (by repeat (first | (with_reducible first | exact HK.out | apply Kept.alloc | apply Kept.drewN | apply Kept.drew) | exact HK.out)) (fun k_ e_ => (HO_0.out.1 k_ e_)));have n2_ := Aside0.mk (ho);clear HB;clear HK;clear HO_0;have HB := n0_;have HK := n1_;have HO170 := n2_;clear n0_ n1_ n2_;clear ho hb hg hat) | ((with_reducible refine gate_callee (f:=24) rfl ?_);refine goesL_ (some 22) rfl rfl Try.func24 (by kernel_rfl) rfl #[.slice A1 l1.length c1, .slice A2 l2.length c2] rfl (by (try simp only [List.map_toArray,List.map_cons,List.map_nil]);first | done | rfl | (simp only [List.length_drop,List.length_take];rfl)) ?_;(with_reducible refine (arrearslaw10_sameRows.calls k1 _ _ l1 _ _ l2 true _ ?side1 ?side2 ?side3 ?side4 A11.out).mono ?_);(case side1 => exact Kd.C_kept_now HR1.out (by repeat (first | (with_reducible first | exact HK.out | apply Kept.alloc | apply Kept.drewN | apply Kept.drew) | exact HK.out)));(case side2 => exact HC1.out);(case side3 => exact Kd.C_kept_now HR2.out (by repeat (first | (with_reducible first | exact HK.out | apply Kept.alloc | apply Kept.drewN | apply Kept.drew) | exact HK.out)));(case side4 => exact HC2.out);rintro e w' ⟨rfl,⟨nd,rfl⟩⟩;refine ⟨_,rfl,?_⟩;obtain ⟨Ao15,co15,eo15⟩ := Kd.R_slice HO170.out;subst eo15))
      go_ret
      exact ⟨by first | rfl | (simp [errW_none,errW_some] <;> rfl) | (simp [*,errW_none,errW_some] <;> rfl),by repeat (first | (with_reducible first | exact HB.out | apply below_alloc | apply pw_below_drewN | apply below_drew1) | exact HB.out),by repeat (first | (with_reducible first | exact HK.out | apply Kept.alloc | apply Kept.drewN | apply Kept.drew) | exact HK.out)⟩
     ·
      replace c12 := Bool.eq_false_iff.mpr c12
      subst c12
      have H1 : (some false) = some r := by rw [if_neg (show ¬ (false = true) by decide)] at H;exact H
      clear H
      have H := H1
      clear H1
      obtain rfl := Option.some.inj H
      obtain ⟨Ao16,co16,eo16⟩ := Kd.R_slice HO_0.out
      subst eo16
      go_wp2_with (first | (at_builtin;refine Kd.R_append_zeros (Kd.int .i64) (w0:=w0) w0.heap.size rfl (.tmp 18) (.const (.int .i64 64)) 41 3 3 (.int .i64 0) 8 rfl Try.underlying41 Try.underlying3 info3 rfl (by decide) (by omega) (.slice Ao16 x0_1.length co16) x0_1 0 (64 : Int) (fun k_ => (P0_ k_ ∨ w.heap.size ≤ k_)) rfl rfl rfl ?aF ?aO (by omega) ?aB ?aS ?aL ?_;(case aB => exact (by repeat (first | (with_reducible first | exact HB.out | apply below_alloc | apply pw_below_drewN | apply below_drew1) | exact HB.out)));(case aF => exact (fun k_ hk => (.inr (Nat.le_trans (by first | exact HK.out.1 | exact (show Kept w _ (fun k_ => P0_ k_) from by repeat (first | (with_reducible first | exact HK.out | apply Kept.alloc | apply Kept.drewN | apply Kept.drew) | exact HK.out)).1) hk))));(case aO => exact (by (with_reducible repeat (first | apply Kd.R_alloc | apply Kd.R_drewN | apply Kd.R_drew));exact HO_0.out));(case aS => exact (below_size (by repeat (first | (with_reducible first | exact HB.out | apply below_alloc | apply pw_below_drewN | apply below_drew1) | exact HB.out))));(case aL => have := LMc10.out;omega);intro v169 w17 ho hb hg hat;(first | rw [← Ny168.out] at ho | (simp only [Int.reduceToNat] at ho;rw [← Ny168.out] at ho));have n0_ := Aside0.mk (hb);have n1_ := Aside0.mk (Kept.of_grown (S:=(fun k_ => P0_ k_)) hg (by repeat (first | (with_reducible first | exact HK.out | apply Kept.alloc | apply Kept.drewN | apply Kept.drew) | exact HK.out)) (fun k_ e_ => (HO_0.out.1 k_ e_)));have n2_ := Aside0.mk (ho);clear HB;clear HK;clear HO_0;have HB := n0_;have HK := n1_;have HO170 := n2_;clear n0_ n1_ n2_;clear ho hb hg hat) | ((with_reducible refine gate_callee (f:=24) rfl ?_);refine goesL_ (some 22) rfl rfl Try.func24 (by kernel_rfl) rfl #[.slice A1 l1.length c1, .slice A2 l2.length c2] rfl (by (try simp only [List.map_toArray,List.map_cons,List.map_nil]);first | done | rfl | (simp only [List.length_drop,List.length_take];rfl)) ?_;(with_reducible refine (arrearslaw10_sameRows.calls k1 _ _ l1 _ _ l2 false _ ?side1 ?side2 ?side3 ?side4 A11.out).mono ?_);(case side1 => exact Kd.C_kept_now HR1.out (by repeat (first | (with_reducible first | exact HK.out | apply Kept.alloc | apply Kept.drewN | apply Kept.drew) | exact HK.out)));(case side2 => exact HC1.out);(case side3 => exact Kd.C_kept_now HR2.out (by repeat (first | (with_reducible first | exact HK.out | apply Kept.alloc | apply Kept.drewN | apply Kept.drew) | exact HK.out)));(case side4 => exact HC2.out);rintro e w' ⟨rfl,⟨nd,rfl⟩⟩;refine ⟨_,rfl,?_⟩))
      go_ret
      exact ⟨by first | rfl | (simp [errW_none,errW_some] <;> rfl) | (simp [*,errW_none,errW_some] <;> rfl),by repeat (first | (with_reducible first | exact HB.out | apply below_alloc | apply pw_below_drewN | apply below_drew1) | exact HB.out),by repeat (first | (with_reducible first | exact HK.out | apply Kept.alloc | apply Kept.drewN | apply Kept.drew) | exact HK.out)⟩
    ·
     rw [if_neg c10] at H
     exact absurd H (by simp)

/-! ### aging_Mark: function 22 (by hand) -/
def aging_Mark.markOne (out : List S31) (i : Int) : List S31 := if 0 ≤ i ∧ i < out.length then out.set i.toNat ⟨(rd_T31 out i).f0,(rd_T31 out i).f1,(rd_T31 out i).f2,true⟩ else out
def aging_Mark.markAll (l : List S31) (is : List Int) : List S31 := is.foldl aging_Mark.markOne l
def aging_Mark.f (l0 : List S31) (l1 : List Int) : Option (List S31) := if l0.length < 4398046511104 then some (aging_Mark.markAll l0 l1) else none
theorem aging_Mark.markOne_len (out : List S31) (i : Int) : (aging_Mark.markOne out i).length = out.length := by unfold aging_Mark.markOne;split <;> simp
theorem aging_Mark.markAll_len (l : List S31) (is : List Int) : (aging_Mark.markAll l is).length = l.length := by
 unfold aging_Mark.markAll
 induction is generalizing l with
 | nil => rfl
 | cons a is ih => rw [List.foldl_cons,ih,aging_Mark.markOne_len]
theorem aging_Mark.markAll_take (l : List S31) (is : List Int) (k : Nat) (h : k < is.length) : aging_Mark.markAll l (is.take (k + 1)) = aging_Mark.markOne (aging_Mark.markAll l (is.take k)) (rd is k) := by
 unfold aging_Mark.markAll
 rw [List.take_succ_eq_append_getElem h,List.foldl_append]
 simp [rd,h]

set_option maxRecDepth 100000 in
set_option maxHeartbeats 2000000 in
theorem aging_Mark.calls (A0 : Option Addr) (c0 : Nat) (l0 : List S31) (A1 : Option Addr) (c1 : Nat) (l1 : List Int) (r : List S31) (w : World) (hr0 : Kd.C k31 w A0 l0.length l0) (hc0 : l0.length ≤ c0) (hr1 : Kd.C (Kd.int .i64) w A1 l1.length l1) (hc1 : l1.length ≤ c1) (h : aging_Mark.f l0 l1 = some r) :
  Calls Try.prog 22 #[.slice A0 l0.length c0, .slice A1 l1.length c1] w fun e w' => ∃ v0_ : Value,e = .returned (v0_) ∧ Kd.R k31 31 w' w.heap.size (fun _ => True) v0_ r ∧ Below w.heap.size w w' := by
 have HR0 := Aside0.mk hr0
 have HR1 := Aside0.mk hr1
 have hmax := hr1.2.1
 unfold aging_Mark.f at h
 split at h
 case isFalse => cases h
 rename_i hlen
 have e := Option.some.inj h
 subst e
 have HL := Aside0.mk hlen
 clear hr0 hr1 h hlen
 have HB := Aside0.mk (Below.refl w.heap.size w)
 go_enter Try.func22,Try.ntmps22
 go_wp2_with ((with_reducible refine gate_builtin (b:=.append) (xs:=#[.const (.slice none 0 0), .tmp 8]) rfl ?_);at_builtin;refine Kd.R_append_rows k31 (w0:=w) w.heap.size rfl (.const (.slice none 0 0)) (.tmp 8) 22 31 (.agg #[(.int .i64 0),(.int .i64 0),(.int .i64 0),(.bool false)]) 32 rfl Try.underlying22 info31 rfl (by decide) (by omega) (.slice none 0 0) ([] : List (S31)) l0 _ _ _ (fun _ => True) (fun _ => False) rfl rfl ?aO ?aR (fun _ _ h => h) (fun _ h => h.elim) ?aF ?aB ?aS ?aL ?_;(case aR => exact HR0.out);(case aB => exact HB.out);(case aF => exact (fun _ _ => trivial));(case aO => exact ((Kd.R_nil _ _ _ _ (fun _ => True))));(case aS => exact Nat.le_refl _);(case aL => have := HL.out;simp only [List.length_nil];omega);intro v134 w3 ho hb hg hat;rw [List.nil_append] at ho;have HO := Aside0.mk ho;have HBn := Aside0.mk hb;clear ho hb hg hat;obtain ⟨A,cc,rfl,hle,hC⟩ := Kd.R_reads HO.out;clear hC)
 go_loopw [12] (fun i wr => ∃ (k : Nat),k ≤ l1.length ∧ i = .int .i64 k ∧ Aside0 (Kd.R k31 31 wr w.heap.size (fun _ => True) (.slice A l0.length cc) (aging_Mark.markAll l0 (l1.take k))) ∧ Aside0 (Below w.heap.size w wr)) (fun i _ => l1.length - (intOf i).toNat)
 case atStart => exact ⟨0,by omega,rfl,⟨HO.out⟩,HBn⟩
 case round =>
  obtain ⟨k,hk,rfl,HR,HBr⟩ := hrel
  by_cases hlt : k < l1.length
  ·
   obtain ⟨ad,e,hc⟩ := Kd.at_int HR1.out k (by omega) (by omega)
   cases e
   rw [Int.toNat_natCast] at hc
   replace hc := pw_cell_below HBr.out hc
   obtain ⟨x,ex⟩ : ∃ x,x = rd l1 (k : Int) := ⟨_,rfl⟩
   rw [← ex] at hc
   have HX := Aside0.mk ex
   clear ex
   have HM := Aside0.mk (show aging_Mark.markAll l0 (l1.take (k + 1)) = aging_Mark.markOne (aging_Mark.markAll l0 (l1.take k)) x by rw [HX.out];exact aging_Mark.markAll_take l0 l1 k hlt)
   have hml := aging_Mark.markAll_len l0 (l1.take k)
   by_cases h0 : 0 ≤ x
   ·
    by_cases h1 : x < (l0.length : Int)
    ·
     have HRM := Aside0.mk hml
     have hpos : 0 < (aging_Mark.markAll l0 (l1.take k)).length := by omega
     obtain ⟨g,cap,hv,hbg,hgl,cells,hcells⟩ := Kd.R_form HR.out hpos
     rw [hml] at hv
     injection hv with hA _ hcc
     subst hA hcc
     have HD := Aside0.mk (Kd.R_reads' HR.out).2.2
     obtain ⟨ad2,e2,hd0,hd1,hd2,hd3⟩ := at_T31 HD.out x h0 (by omega)
     injection e2 with e2
     subst e2
     clear hml hpos
     rw [add_plain] at hd0 hd1 hd2 hd3
     have HC := Aside0.mk (show ∀ j u, [Value.int .i64 (rd_T31 (aging_Mark.markAll l0 (l1.take k)) x).f0, .int .i64 (rd_T31 (aging_Mark.markAll l0 (l1.take k)) x).f1, .int .i64 (rd_T31 (aging_Mark.markAll l0 (l1.take k)) x).f2, .bool (rd_T31 (aging_Mark.markAll l0 (l1.take k)) x).f3][j]? = some u → wr.cell? ⟨g,x.toNat * k31.sz + j,none⟩ = some u from by
      intro j u hj
      match j,hj with
      | 0,hj => cases hj;exact hd0
      | 1,hj => cases hj;exact hd1
      | 2,hj => cases hj;exact hd2
      | 3,hj => cases hj;exact hd3)
     clear hd0 hd1 hd2 hd3 hcells
     have t0 : decide (0 ≤ x) = true := decide_eq_true h0
     have t1 : decide (x < (l0.length : Int)) = true := decide_eq_true h1
     go_wp2_with (refine Kd.R_store k31 (w0:=w) w.heap.size rfl rfl 4 (.tmp 27) (.const (.bool true)) rfl 31 (g:=g) (n:=l0.length) (cap:=cc) x 3 (aging_Mark.markAll l0 (l1.take k)) ⟨(rd_T31 (aging_Mark.markAll l0 (l1.take k)) x).f0,(rd_T31 (aging_Mark.markAll l0 (l1.take k)) x).f1,(rd_T31 (aging_Mark.markAll l0 (l1.take k)) x).f2,true⟩ (.bool true) [.bool true] [.int .i64 (rd_T31 (aging_Mark.markAll l0 (l1.take k)) x).f0, .int .i64 (rd_T31 (aging_Mark.markAll l0 (l1.take k)) x).f1, .int .i64 (rd_T31 (aging_Mark.markAll l0 (l1.take k)) x).f2, .bool (rd_T31 (aging_Mark.markAll l0 (l1.take k)) x).f3] (fun _ => True) (fun _ => False) rfl rfl rfl rfl ?ht ?h1 HR.out h0 (of_decide_eq_true t1) rfl ?hcc (Nat.le_refl _) ?hM (fun _ h => h.elim) HBr.out ?_;(case ht => kernel_rfl);(case h1 => simp [Value.oneCell']);(case hcc => exact HC.out);(case hM => exact k31_mkM _ _ _ _);intro w1 ho hb hg;clear hg;have HO1 := Aside0.mk ho;have HB1 := Aside0.mk hb;clear ho hb)
     go_roundw
     case rel => exact ⟨k + 1,by omega,by go_num,⟨by rw [HM.out];unfold aging_Mark.markOne;rw [if_pos ⟨h0,by rw [HRM.out];exact of_decide_eq_true t1⟩];exact HO1.out⟩,HB1⟩
     case measure => simp [intOf];omega
    ·
     have HRM := Aside0.mk hml
     clear hml
     have t0 : decide (0 ≤ x) = true := decide_eq_true h0
     have t1 : decide (x < (l0.length : Int)) = false := decide_eq_false h1
     have H1 := Aside0.mk h1
     clear h1
     go_wp2
     go_roundw
     case rel => exact ⟨k + 1,by omega,by go_num,⟨by rw [HM.out];unfold aging_Mark.markOne;rw [if_neg (fun h => H1.out (by have := HRM.out;omega))];exact HR.out⟩,HBr⟩
     case measure => simp [intOf];omega
   ·
    have t0 : decide (0 ≤ x) = false := decide_eq_false h0
    have H0 := Aside0.mk h0
    clear hml h0
    go_wp2
    go_roundw
    case rel => exact ⟨k + 1,by omega,by go_num,⟨by rw [HM.out];unfold aging_Mark.markOne;rw [if_neg (fun h => H0.out h.1)];exact HR.out⟩,HBr⟩
    case measure => simp [intOf];omega
  ·
   have hR := HR.out
   rw [List.take_of_length_le (by omega)] at hR
   have HR2 := Aside0.mk hR
   clear hR
   go_wp2
   go_ret
   exact ⟨_,rfl,HR2.out,HBr.out⟩

/-! ### arrearslaw10_marksRight: function 26 -/
mutual
def arrearslaw10_marksRight.j0 : Nat → List (S31) → List (S31) → List (S31) → Bool → Option (Bool)
 | 0,_,_,_,_ => none
 | k + 1,x2,x7,x8,x26 => if x26 = true then (some false) else (arrearslaw10_marksRight.l0 k x2 x7 x8 0)
def arrearslaw10_marksRight.l0 : Nat → List (S31) → List (S31) → List (S31) → Int → Option (Bool)
 | 0,_,_,_,_ => none
 | k + 1,x2,x7,x8,x9 => if x9 < (x7.length : Int) then (if 0 ≤ x9 then (arrearslaw10_marksRight.l0 k x2 (x7.set (x9 : Int).toNat (⟨(-902),0,0,false⟩ : S31)) x8 (wrap64 (x9 + 1))) else (none)) else (if x7.length + 64 < 4398046511104 then ((arrearslaw10_samePlan.f k x8 x2).bind fun t184 => (if t184 = true then (some (((x7 ++ List.replicate 64 z31).length : Int) == (wrap64 ((x2.length : Int) + 64)))) else (some false))) else (none))
end
def arrearslaw10_marksRight.f (k : Nat) (l0 : List (S31)) (l1 : List Int) (l2 : List (S31)) : Option (Bool) := (aging_Mark.f l0 l1).bind fun t172 => ((aging_Mark.f l0 l1).bind fun t175 => ((arrearslaw10_samePlan.f k t172 l2).bind fun t178 => (if t178 = true then ((arrearslaw10_samePlan.f k t175 l2).bind fun t179 => (arrearslaw10_marksRight.j0 k l2 t172 t175 (!t179))) else (arrearslaw10_marksRight.j0 k l2 t172 t175 true))))
theorem arrearslaw10_marksRight.mono_l : ∀ k,(∀ y0 y1 y2 y3,LeO (arrearslaw10_marksRight.j0 k y0 y1 y2 y3) (arrearslaw10_marksRight.j0 (k + 1) y0 y1 y2 y3)) ∧ (∀ y0 y1 y2 y3,LeO (arrearslaw10_marksRight.l0 k y0 y1 y2 y3) (arrearslaw10_marksRight.l0 (k + 1) y0 y1 y2 y3))
 | 0 => ⟨fun _ _ _ _ r h => by simp [arrearslaw10_marksRight.j0] at h,fun _ _ _ _ r h => by simp [arrearslaw10_marksRight.l0] at h⟩
 | k + 1 => by
  obtain ⟨ih0,ih1⟩ := arrearslaw10_marksRight.mono_l k
  refine ⟨?_,?_⟩
  ·
   intro y0 y1 y2 y3
   unfold arrearslaw10_marksRight.j0
   repeat' first
   | (with_reducible exact ih0 _ _ _ _)
   | (with_reducible exact ih1 _ _ _ _)
   | (with_reducible exact arrearslaw10_samePlan.mono _ _ _)
   | (with_reducible exact LeO.refl _)
   | (with_reducible exact LeO.none _)
   | (with_reducible refine LeO.ite ?_ ?_)
   | (with_reducible refine LeO.bind ?_ (fun _ => ?_))
   | exact ih0 _ _ _ _
   | exact ih1 _ _ _ _
   | exact arrearslaw10_samePlan.mono _ _ _
   | exact LeO.none _
   | refine LeO.ite ?_ ?_
   | refine LeO.bind ?_ (fun _ => ?_)
  ·
   intro y0 y1 y2 y3
   unfold arrearslaw10_marksRight.l0
   repeat' first
   | (with_reducible exact ih0 _ _ _ _)
   | (with_reducible exact ih1 _ _ _ _)
   | (with_reducible exact arrearslaw10_samePlan.mono _ _ _)
   | (with_reducible exact LeO.refl _)
   | (with_reducible exact LeO.none _)
   | (with_reducible refine LeO.ite ?_ ?_)
   | (with_reducible refine LeO.bind ?_ (fun _ => ?_))
   | exact ih0 _ _ _ _
   | exact ih1 _ _ _ _
   | exact arrearslaw10_samePlan.mono _ _ _
   | exact LeO.none _
   | refine LeO.ite ?_ ?_
   | refine LeO.bind ?_ (fun _ => ?_)
theorem arrearslaw10_marksRight.mono : ∀ a0 a1 a2 k,LeO (arrearslaw10_marksRight.f k a0 a1 a2) (arrearslaw10_marksRight.f (k + 1) a0 a1 a2) := by
 intro a0 a1 a2 k
 obtain ⟨ih0,ih1⟩ := arrearslaw10_marksRight.mono_l k
 unfold arrearslaw10_marksRight.f
 repeat' first
   | (with_reducible exact ih0 _ _ _ _)
   | (with_reducible exact ih1 _ _ _ _)
   | (with_reducible exact arrearslaw10_samePlan.mono _ _ _)
   | (with_reducible exact LeO.refl _)
   | (with_reducible exact LeO.none _)
   | (with_reducible refine LeO.ite ?_ ?_)
   | (with_reducible refine LeO.bind ?_ (fun _ => ?_))
   | exact ih0 _ _ _ _
   | exact ih1 _ _ _ _
   | exact arrearslaw10_samePlan.mono _ _ _
   | exact LeO.none _
   | refine LeO.ite ?_ ?_
   | refine LeO.bind ?_ (fun _ => ?_)
set_option maxHeartbeats 8000000 in
set_option maxRecDepth 100000 in
theorem arrearslaw10_marksRight.calls (k : Nat) (A0 : Option Addr) (c0 : Nat) (l0 : List (S31)) (A1 : Option Addr) (c1 : Nat) (l1 : List Int) (A2 : Option Addr) (c2 : Nat) (l2 : List (S31)) (r : Bool) (w : World) (hr0 : Kd.C k31 w A0 l0.length l0) (hc0 : l0.length ≤ c0) (hr1 : Kd.C (Kd.int .i64) w A1 l1.length l1) (hc1 : l1.length ≤ c1) (hr2 : Kd.C k31 w A2 l2.length l2) (hc2 : l2.length ≤ c2) (h : arrearslaw10_marksRight.f k l0 l1 l2 = some r) :
  Calls Try.prog 26 #[.slice A0 l0.length c0, .slice A1 l1.length c1, .slice A2 l2.length c2] w fun e w' => e = .returned (.bool r) ∧ Below w.heap.size w w' := by
 have hu31 := Try.underlying31
 have HR0 := Aside0.mk hr0
 have HC0 := Aside0.mk hc0
 clear hr0 hc0
 have HR1 := Aside0.mk hr1
 have HC1 := Aside0.mk hc1
 clear hr1 hc1
 have HR2 := Aside0.mk hr2
 have HC2 := Aside0.mk hc2
 clear hr2 hc2
 have HB := Aside0.mk (Below.refl w.heap.size w)
 have H : ((aging_Mark.f l0 l1).bind fun t172 => ((aging_Mark.f l0 l1).bind fun t175 => ((arrearslaw10_samePlan.f k t172 l2).bind fun t178 => (if t178 = true then ((arrearslaw10_samePlan.f k t175 l2).bind fun t179 => (arrearslaw10_marksRight.j0 k l2 t172 t175 (!t179))) else (arrearslaw10_marksRight.j0 k l2 t172 t175 true))))) = some r := h
 clear h
 replace H := Option.bind_eq_some_iff.mp H
 obtain ⟨t172,A40,H⟩ := H
 replace H : ((aging_Mark.f l0 l1).bind fun t175 => ((arrearslaw10_samePlan.f k t172 l2).bind fun t178 => (if t178 = true then ((arrearslaw10_samePlan.f k t175 l2).bind fun t179 => (arrearslaw10_marksRight.j0 k l2 t172 t175 (!t179))) else (arrearslaw10_marksRight.j0 k l2 t172 t175 true)))) = some r := H
 have A4 := Aside0.mk A40
 clear A40
 replace H := Option.bind_eq_some_iff.mp H
 obtain ⟨t175,A50,H⟩ := H
 replace H : ((arrearslaw10_samePlan.f k t172 l2).bind fun t178 => (if t178 = true then ((arrearslaw10_samePlan.f k t175 l2).bind fun t179 => (arrearslaw10_marksRight.j0 k l2 t172 t175 (!t179))) else (arrearslaw10_marksRight.j0 k l2 t172 t175 true))) = some r := H
 have A5 := Aside0.mk A50
 clear A50
 have HC6 := Aside0.mk H
 clear H
 go_enter Try.func26,Try.ntmps26
 go_upto_region 3 with (first | ((with_reducible refine gate_callee (f:=22) rfl ?_);refine goesL_ (some 13) rfl rfl Try.func22 (by kernel_rfl) rfl #[.slice A0 l0.length c0, .slice A1 l1.length c1] rfl (by (try simp only [List.map_toArray,List.map_cons,List.map_nil]);first | done | rfl | (simp only [List.length_drop,List.length_take];rfl)) ?_;(with_reducible refine (aging_Mark.calls _ _ l0 _ _ l1 t172 _ ?side1 ?side2 ?side3 ?side4 A4.out).mono ?_);(case side1 => repeat (first | exact HR0.out | (with_reducible refine Kd.C_alloc ?_ _) | (with_reducible refine Kd.C_drewN ?_ _) | (with_reducible refine Kd.C_drew ?_)));(case side2 => exact HC0.out);(case side3 => repeat (first | exact HR1.out | (with_reducible refine Kd.C_alloc ?_ _) | (with_reducible refine Kd.C_drewN ?_ _) | (with_reducible refine Kd.C_drew ?_)));(case side4 => exact HC1.out);rintro e w7 ⟨v173,rfl,ho0,hb⟩;refine ⟨_,rfl,?_⟩;have n0_ := Aside0.mk (Kd.R_lower ho0 (below_size (by repeat (first | (with_reducible first | exact HB.out | apply below_alloc | apply pw_below_drewN | apply below_drew1) | exact HB.out))));have n1_ := Aside0.mk (below_step (by repeat (first | (with_reducible first | exact HB.out | apply below_alloc | apply pw_below_drewN | apply below_drew1) | exact HB.out)) hb);clear HB;have HO174 := n0_;have HB := n1_;clear n0_ n1_;(try clear hb);(try clear hb2);(try clear hk);(try clear hi);(try clear ho0)) | ((with_reducible refine gate_callee (f:=22) rfl ?_);refine goesL_ (some 16) rfl rfl Try.func22 (by kernel_rfl) rfl #[.slice A0 l0.length c0, .slice A1 l1.length c1] rfl (by (try simp only [List.map_toArray,List.map_cons,List.map_nil]);first | done | rfl | (simp only [List.length_drop,List.length_take];rfl)) ?_;(with_reducible refine (aging_Mark.calls _ _ l0 _ _ l1 t175 _ ?side1 ?side2 ?side3 ?side4 A5.out).mono ?_);(case side1 => repeat (first | exact (Kd.C_below HR0.out HB.out) | (with_reducible refine Kd.C_alloc ?_ _) | (with_reducible refine Kd.C_drewN ?_ _) | (with_reducible refine Kd.C_drew ?_)));(case side2 => exact HC0.out);(case side3 => repeat (first | exact (Kd.C_below HR1.out HB.out) | (with_reducible refine Kd.C_alloc ?_ _) | (with_reducible refine Kd.C_drewN ?_ _) | (with_reducible refine Kd.C_drew ?_)));(case side4 => exact HC1.out);rintro e w8 ⟨v176,rfl,ho0,hb⟩;refine ⟨_,rfl,?_⟩;have n0_ := Aside0.mk (Kd.R_elder' (by (with_reducible repeat (first | apply Kd.R_alloc | apply Kd.R_drewN | apply Kd.R_drew));exact HO174.out) (Kd.R_base ho0) hb);have n1_ := Aside0.mk (Kd.R_lower (Kd.R_new' ho0 (Kd.R_lt (by (with_reducible repeat (first | apply Kd.R_alloc | apply Kd.R_drewN | apply Kd.R_drew));exact HO174.out))) (below_size (by repeat (first | (with_reducible first | exact HB.out | apply below_alloc | apply pw_below_drewN | apply below_drew1) | exact HB.out))));have n2_ := Aside0.mk (below_step (by repeat (first | (with_reducible first | exact HB.out | apply below_alloc | apply pw_below_drewN | apply below_drew1) | exact HB.out)) hb);clear HO174;clear HB;have HO174 := n0_;have HO177 := n1_;have HB := n2_;clear n0_ n1_ n2_;(try clear hb);(try clear hb2);(try clear hk);(try clear hi);(try clear ho0)))
 (try simp only [Act.put,List.setIfInBounds_toArray,List.set_cons_zero,List.set_cons_succ])
 go_cut [26] (fun v26 wc => ∃ (kq : Nat) (x26_5 : Bool),v26 = .bool x26_5 ∧ Aside0 (arrearslaw10_marksRight.j0 kq l2 t172 t175 x26_5 = some r) ∧ Aside0 (kq ≤ k) ∧ Aside0 (Kd.R k31 31 wc w.heap.size (fun k_ => some k_ ≠ (v176 : Value).ownBlock) v173 t172) ∧ Aside0 (Kd.R k31 31 wc w.heap.size (fun k_ => some k_ ≠ (v173 : Value).ownBlock) v176 t175) ∧ Aside0 (Below w.heap.size w wc))
 case first =>
  have H := HC6.out
  clear HC6
  replace H := Option.bind_eq_some_iff.mp H
  obtain ⟨t178,A90,H⟩ := H
  replace H : (if t178 = true then ((arrearslaw10_samePlan.f k t175 l2).bind fun t179 => (arrearslaw10_marksRight.j0 k l2 t172 t175 (!t179))) else (arrearslaw10_marksRight.j0 k l2 t172 t175 true)) = some r := H
  have A9 := Aside0.mk A90
  clear A90
  by_cases c10 : t178 = true
  ·
   subst c10
   have H1 : ((arrearslaw10_samePlan.f k t175 l2).bind fun t179 => (arrearslaw10_marksRight.j0 k l2 t172 t175 (!t179))) = some r := by rw [if_pos rfl] at H;exact H
   clear H
   have H := H1
   clear H1
   replace H := Option.bind_eq_some_iff.mp H
   obtain ⟨t179,A110,H⟩ := H
   replace H : (arrearslaw10_marksRight.j0 k l2 t172 t175 (!t179)) = some r := H
   have A11 := Aside0.mk A110
   clear A110
   have H' := Aside0.mk H
   clear H
   obtain ⟨Ao12,co12,eo12⟩ := Kd.R_slice HO174.out
   subst eo12
   go_wp2_with (first | ((with_reducible refine gate_callee (f:=18) rfl ?_);refine goesL_ (some 19) rfl rfl Try.func18 (by kernel_rfl) rfl #[.slice Ao12 t172.length co12, .slice A2 l2.length c2] rfl (by (try simp only [List.map_toArray,List.map_cons,List.map_nil]);first | done | rfl | (simp only [List.length_drop,List.length_take];rfl)) ?_;(with_reducible refine (arrearslaw10_samePlan.calls k _ _ t172 _ _ l2 true _ ?side1 ?side2 ?side3 ?side4 A9.out).mono ?_);(case side1 => repeat (first | exact (Kd.R_reads' HO174.out).2.2 | (with_reducible refine Kd.C_alloc ?_ _) | (with_reducible refine Kd.C_drewN ?_ _) | (with_reducible refine Kd.C_drew ?_)));(case side2 => exact (Kd.R_reads' HO174.out).2.1);(case side3 => repeat (first | exact (Kd.C_below HR2.out HB.out) | (with_reducible refine Kd.C_alloc ?_ _) | (with_reducible refine Kd.C_drewN ?_ _) | (with_reducible refine Kd.C_drew ?_)));(case side4 => exact HC2.out);rintro e w' ⟨rfl,⟨nd,rfl⟩⟩;refine ⟨_,rfl,?_⟩;obtain ⟨Ao13,co13,eo13⟩ := Kd.R_slice HO177.out;subst eo13) | (go_at_call 18;(with_reducible refine (arrearslaw10_samePlan.calls k _ _ t175 _ _ l2 t179 _ ?side1 ?side2 ?side3 ?side4 A11.out).mono ?_);(case side1 => repeat (first | exact (Kd.R_reads' HO177.out).2.2 | (with_reducible refine Kd.C_alloc ?_ _) | (with_reducible refine Kd.C_drewN ?_ _) | (with_reducible refine Kd.C_drew ?_)));(case side2 => exact (Kd.R_reads' HO177.out).2.1);(case side3 => repeat (first | exact (Kd.C_below HR2.out (by repeat (first | (with_reducible first | exact HB.out | apply below_alloc | apply pw_below_drewN | apply below_drew1) | exact HB.out))) | (with_reducible refine Kd.C_alloc ?_ _) | (with_reducible refine Kd.C_drewN ?_ _) | (with_reducible refine Kd.C_drew ?_)));(case side4 => exact HC2.out);rintro e w' ⟨rfl,⟨nd,rfl⟩⟩))
   go_meet
   case rel => exact ⟨_,(!t179),(by first | rfl | (simp;done) | (simp [*];done)),H',⟨by first | omega | exact Nat.le_refl _⟩,⟨by (with_reducible repeat (first | apply Kd.R_alloc | apply Kd.R_drewN | apply Kd.R_drew));exact Kd.R_mono HO174.out (fun _ hk => hk.2)⟩,⟨by (with_reducible repeat (first | apply Kd.R_alloc | apply Kd.R_drewN | apply Kd.R_drew));exact Kd.R_mono HO177.out (fun _ hk => hk.2)⟩,⟨by repeat (first | (with_reducible first | exact HB.out | apply below_alloc | apply pw_below_drewN | apply below_drew1) | exact HB.out)⟩⟩
  ·
   replace c10 := Bool.eq_false_iff.mpr c10
   subst c10
   have H1 : (arrearslaw10_marksRight.j0 k l2 t172 t175 true) = some r := by rw [if_neg (show ¬ (false = true) by decide)] at H;exact H
   clear H
   have H := H1
   clear H1
   have H' := Aside0.mk H
   clear H
   obtain ⟨Ao14,co14,eo14⟩ := Kd.R_slice HO174.out
   subst eo14
   go_wp2_with (first | ((with_reducible refine gate_callee (f:=18) rfl ?_);refine goesL_ (some 19) rfl rfl Try.func18 (by kernel_rfl) rfl #[.slice Ao14 t172.length co14, .slice A2 l2.length c2] rfl (by (try simp only [List.map_toArray,List.map_cons,List.map_nil]);first | done | rfl | (simp only [List.length_drop,List.length_take];rfl)) ?_;(with_reducible refine (arrearslaw10_samePlan.calls k _ _ t172 _ _ l2 false _ ?side1 ?side2 ?side3 ?side4 A9.out).mono ?_);(case side1 => repeat (first | exact (Kd.R_reads' HO174.out).2.2 | (with_reducible refine Kd.C_alloc ?_ _) | (with_reducible refine Kd.C_drewN ?_ _) | (with_reducible refine Kd.C_drew ?_)));(case side2 => exact (Kd.R_reads' HO174.out).2.1);(case side3 => repeat (first | exact (Kd.C_below HR2.out HB.out) | (with_reducible refine Kd.C_alloc ?_ _) | (with_reducible refine Kd.C_drewN ?_ _) | (with_reducible refine Kd.C_drew ?_)));(case side4 => exact HC2.out);rintro e w' ⟨rfl,⟨nd,rfl⟩⟩;refine ⟨_,rfl,?_⟩))
   go_meet
   case rel => exact ⟨_,(true),(by first | rfl | (simp;done) | (simp [*];done)),H',⟨by first | omega | exact Nat.le_refl _⟩,⟨by (with_reducible repeat (first | apply Kd.R_alloc | apply Kd.R_drewN | apply Kd.R_drew));exact Kd.R_mono HO174.out (fun _ hk => hk.2)⟩,⟨by (with_reducible repeat (first | apply Kd.R_alloc | apply Kd.R_drewN | apply Kd.R_drew));exact Kd.R_mono HO177.out (fun _ hk => hk.2)⟩,⟨by repeat (first | (with_reducible first | exact HB.out | apply below_alloc | apply pw_below_drewN | apply below_drew1) | exact HB.out)⟩⟩
 case rest =>
  clear HC6
  try clear c1
  try clear c2
  try clear p2
  try clear c10
  obtain ⟨kq,x26_5,rfl,HA,HJ5,HO_7,HO_8,HB⟩ := hcut
  cases kq with
  | zero => exact absurd HA.out (by simp [arrearslaw10_marksRight.j0])
  | succ kj5 =>
   have H := HA.out
   clear HA
   simp only [arrearslaw10_marksRight.j0] at H
   by_cases c15 : x26_5 = true
   ·
    subst c15
    have H1 : (some false) = some r := by rw [if_pos rfl] at H;exact H
    clear H
    have H := H1
    clear H1
    obtain rfl := Option.some.inj H
    go_wp2
    go_ret
    exact ⟨by first | rfl | (simp [errW_none,errW_some] <;> rfl) | (simp [*,errW_none,errW_some] <;> rfl),by repeat (first | (with_reducible first | exact HB.out | apply below_alloc | apply pw_below_drewN | apply below_drew1) | exact HB.out)⟩
   ·
    replace c15 := Bool.eq_false_iff.mpr c15
    subst c15
    have H1 : (arrearslaw10_marksRight.l0 kj5 l2 t172 t175 0) = some r := by rw [if_neg (show ¬ (false = true) by decide)] at H;exact H
    clear H
    have H := H1
    clear H1
    have H' := Aside0.mk H
    clear H
    go_wp2
    go_loopg [9] kj5 (fun kq v9 w' => ∃ (x7_2 : List (S31)) (x9_2 : Int),v9 = .int .i64 x9_2 ∧ Aside0 (arrearslaw10_marksRight.l0 kq l2 x7_2 t175 x9_2 = some r) ∧ Aside0 (kq ≤ kj5) ∧ Aside0 (Kd.R k31 31 w' w.heap.size (fun k_ => some k_ ≠ (v176 : Value).ownBlock) v173 x7_2) ∧ Aside0 (Kd.R k31 31 w' w.heap.size (fun k_ => some k_ ≠ (v173 : Value).ownBlock) v176 t175) ∧ Aside0 (Below w.heap.size w w'))
    case atStart => exact ⟨(t172),(0),(by first | rfl | (simp;done) | (simp [*];done)),H',⟨Nat.le_refl _⟩,⟨by (with_reducible repeat (first | apply Kd.R_alloc | apply Kd.R_drewN | apply Kd.R_drew));exact HO_7.out⟩,⟨by (with_reducible repeat (first | apply Kd.R_alloc | apply Kd.R_drewN | apply Kd.R_drew));exact HO_8.out⟩,⟨by repeat (first | (with_reducible first | exact HB.out | apply below_alloc | apply pw_below_drewN | apply below_drew1) | exact HB.out)⟩⟩
    case round =>
     clear H'
     try clear c1
     try clear c2
     try clear p2
     try clear c10
     try clear c15
     try clear p2
     obtain ⟨x7_2,x9_2,rfl,HA,HK2,HO_7,HO_8,HB⟩ := hrel
     cases gk with
     | zero => exact absurd HA.out (by simp [arrearslaw10_marksRight.l0])
     | succ k2 =>
      have H := HA.out
      clear HA
      simp only [arrearslaw10_marksRight.l0] at H
      by_cases c16 : x9_2 < (x7_2.length : Int)
      ·
       rw [if_pos c16] at H
       have c16b0 : decide (x9_2 < (x7_2.length : Int)) = true := decide_eq_true c16
       clear c16
       by_cases c17 : 0 ≤ x9_2
       ·
        rw [if_pos c17] at H
        have c17b0 : decide (0 ≤ x9_2) = true := decide_eq_true c17
        clear c17
        obtain ⟨y180,hy180⟩ : ∃ y_ : List (S31),y_ = (x7_2.set (x9_2 : Int).toNat (⟨(-902),0,0,false⟩ : S31)) := ⟨_,rfl⟩
        replace H : (arrearslaw10_marksRight.l0 k2 l2 y180 t175 (wrap64 (x9_2 + 1))) = some r := by first | (rw [hy180];with_reducible exact H) | (have H2_ := (Option.bind_some _ _).symm.trans H;rw [hy180];with_reducible exact H2_) | (have H2_ := (Option.bind_some _ _).symm.trans H;with_reducible exact H2_) | with_reducible exact H | (rw [hy180];exact H) | exact H
        have Ny180 := Aside0.mk hy180
        clear hy180
        have H' := Aside0.mk H
        clear H
        obtain ⟨Ao19,co19,eo19⟩ := Kd.R_slice HO_7.out
        subst eo19
        have p18 : 0 ≤ (x9_2 : Int) := of_decide_eq_true (by first | (with_reducible assumption) | assumption)
        have q18 : (x9_2 : Int) < ((x7_2.length : Int) : Int) := of_decide_eq_true (by first | (with_reducible assumption) | assumption)
        obtain ⟨go18,co18,eo18,gb18,gl18,cl18,HG18⟩ := Kd.R_form HO_7.out (by omega)
        (first | cases eo18 | (injection eo18 with ea_ en_ ec_;(first | subst ea_ | (injection ea_ with ea_;subst ea_));subst ec_;clear en_))
        have GB18 := Aside0.mk gb18
        have GG18 := Aside0.mk HG18
        clear gb18 gl18 HG18
        obtain ⟨ce18,hcl18,hM18,hcc18,hfr18⟩ := Kd.R_elem HO_7.out z31 (x9_2 : Int) p18 q18
        obtain rfl := k31_openM hM18
        have hx18_0 : wr.cell? ⟨go18,(x9_2 : Int).toNat * 4,none⟩ = some (.int .i64 ((rd_T31 x7_2 x9_2).f0)) := hcc18 0 _ rfl
        have hx18_1 : wr.cell? ⟨go18,(x9_2 : Int).toNat * 4 + 1,none⟩ = some (.int .i64 ((rd_T31 x7_2 x9_2).f1)) := hcc18 1 _ rfl
        have hx18_2 : wr.cell? ⟨go18,(x9_2 : Int).toNat * 4 + 2,none⟩ = some (.int .i64 ((rd_T31 x7_2 x9_2).f2)) := hcc18 2 _ rfl
        have hx18_3 : wr.cell? ⟨go18,(x9_2 : Int).toNat * 4 + 3,none⟩ = some (.bool ((rd_T31 x7_2 x9_2).f3)) := hcc18 3 _ rfl
        have hf18_0 : wr.frozen? ⟨go18,(x9_2 : Int).toNat * 4,none⟩ = false := hfr18 0
        have hf18_1 : wr.frozen? ⟨go18,(x9_2 : Int).toNat * 4 + 1,none⟩ = false := hfr18 1
        have hf18_2 : wr.frozen? ⟨go18,(x9_2 : Int).toNat * 4 + 2,none⟩ = false := hfr18 2
        have hf18_3 : wr.frozen? ⟨go18,(x9_2 : Int).toNat * 4 + 3,none⟩ = false := hfr18 3
        clear hcl18 hcc18 hfr18 hM18
        replace p18 := eq_true p18
        replace q18 := eq_true q18
        have HX20 := Aside0.mk (show Kd.R k31 31 wr w.heap.size (fun k_ => some k_ ≠ (v176 : Value).ownBlock) (.slice (some ⟨go18,0,none⟩) x7_2.length co19) x7_2 from (by (with_reducible repeat (first | apply Kd.R_alloc | apply Kd.R_drewN | apply Kd.R_drew));exact HO_7.out))
        obtain ⟨ce20,hcl20,hM20,hcc20,hfr20⟩ := Kd.R_elem HX20.out z31 (x9_2 : Int) (of_decide_eq_true (by first | (with_reducible assumption) | assumption)) (by have h_ : (x9_2 : Int) < ((x7_2.length : Int) : Int) := of_decide_eq_true (by first | (with_reducible assumption) | assumption);first | exact h_ | (have e_ := (Kd.R_reads' HO_7.out).1;omega) | simpa using h_)
        obtain rfl := k31_openM hM20
        have HP20 := Kd.R_seg HX20.out (x9_2 : Int) (of_decide_eq_true (by first | (with_reducible assumption) | assumption)) (by have h_ : (x9_2 : Int) < ((x7_2.length : Int) : Int) := of_decide_eq_true (by first | (with_reducible assumption) | assumption);first | exact h_ | (have e_ := (Kd.R_reads' HO_7.out).1;omega) | simpa using h_) (seg:=[.int .i64 (-902), .int .i64 0, .int .i64 0, .bool false]) (j:=0) hcl20 hcc20 (show 4 ≤ 4 from by decide) (x' := (⟨(-902),0,0,false⟩ : S31)) (k31_mkM _ _ _ (⟨(-902),0,0,false⟩ : S31) ) (fun _ hk => hk)
        have hx20_0 := hcc20 0 _ rfl
        (try simp only [show (k31).sz = 4 from rfl,Nat.mul_one,Nat.add_zero] at hx20_0)
        have hf20_0 := hfr20 0
        (try simp only [show (k31).sz = 4 from rfl,Nat.mul_one,Nat.add_zero] at hf20_0)
        have hx20_1 := hcc20 1 _ rfl
        (try simp only [show (k31).sz = 4 from rfl,Nat.mul_one,Nat.add_zero] at hx20_1)
        have hf20_1 := hfr20 1
        (try simp only [show (k31).sz = 4 from rfl,Nat.mul_one,Nat.add_zero] at hf20_1)
        have hx20_2 := hcc20 2 _ rfl
        (try simp only [show (k31).sz = 4 from rfl,Nat.mul_one,Nat.add_zero] at hx20_2)
        have hf20_2 := hfr20 2
        (try simp only [show (k31).sz = 4 from rfl,Nat.mul_one,Nat.add_zero] at hf20_2)
        have hx20_3 := hcc20 3 _ rfl
        (try simp only [show (k31).sz = 4 from rfl,Nat.mul_one,Nat.add_zero] at hx20_3)
        have hf20_3 := hfr20 3
        (try simp only [show (k31).sz = 4 from rfl,Nat.mul_one,Nat.add_zero] at hf20_3)
        clear hcl20 hcc20 hfr20 hM20
        go_wp2_with (first | ((with_reducible refine gate_store (t:=31) (p:=36) rfl ?_);refine store_event (t:=31) (p:=36) (v:=?vo_w21) (w1:=((((wr.setCell ⟨go18,(x9_2 : Int).toNat * 4,none⟩ (.int .i64 (-902))).setCell ⟨go18,(x9_2 : Int).toNat * 4 + 1,none⟩ (.int .i64 0)).setCell ⟨go18,(x9_2 : Int).toNat * 4 + 2,none⟩ (.int .i64 0)).setCell ⟨go18,(x9_2 : Int).toNat * 4 + 3,none⟩ (.bool false))) ?hg ?ho ?hn ?hr ?_;(case ho => rfl);(case hg => rfl);(case hn => rfl);(case hr => first | (go_simp;done) | (go_simp;rfl));intro w21 hw;have hg : wr.grownBy w21 (some go18) := (by rw [hw];exact HP20.2);have hp_ : Kd.R k31 31 w21 w.heap.size (fun k_ => some k_ ≠ (v176 : Value).ownBlock) (.slice (some ⟨go18,0,none⟩) x7_2.length co19) y180 := (by rw [hw,Ny180.out];exact HP20.1);clear HP20;have n0_ := Aside0.mk (hp_);have n1_ := Aside0.mk (Kd.R_after (v:=(.slice (some ⟨go18,0,none⟩) x7_2.length co19)) (v1:=(.slice (some ⟨go18,0,none⟩) x7_2.length co19)) (ok:=(fun _ => True)) (by (with_reducible repeat (first | apply Kd.R_alloc | apply Kd.R_drewN | apply Kd.R_drew));exact Kd.R_mono HO_8.out (fun _ hk => ⟨trivial,hk⟩)) hg (.inl rfl));have n2_ := Aside0.mk ((by rw [hw];exact below_set (below_set (below_set (below_set (HB.out) GB18.out) GB18.out) GB18.out) GB18.out : Below w.heap.size w w21));clear HO_7;clear HO_8;clear HB;have HO_7 := n0_;have HO_8 := n1_;have HB := n2_;clear n0_ n1_ n2_;clear hg hw hp_))
        go_roundg k2
        case measure => have := HJ5.out;have := HK2.out;omega
        case rel => exact ⟨(y180),(wrap64 (x9_2 + 1)),(by first | rfl | (simp;done) | (simp [*];done)),H',⟨by have := HJ5.out;have := HK2.out;omega⟩,⟨by (with_reducible repeat (first | apply Kd.R_alloc | apply Kd.R_drewN | apply Kd.R_drew));exact HO_7.out⟩,⟨by (with_reducible repeat (first | apply Kd.R_alloc | apply Kd.R_drewN | apply Kd.R_drew));exact Kd.R_mono HO_8.out (fun _ hk => hk.2)⟩,⟨by repeat (first | (with_reducible first | exact HB.out | apply below_alloc | apply pw_below_drewN | apply below_drew1) | exact HB.out)⟩⟩
       ·
        rw [if_neg c17] at H
        exact absurd H (by simp)
      ·
       rw [if_neg c16] at H
       have c16b0 : decide (x9_2 < (x7_2.length : Int)) = false := decide_eq_false c16
       clear c16
       by_cases c22 : x7_2.length + 64 < 4398046511104
       ·
        rw [if_pos c22] at H
        have LMc22 := Aside0.mk c22
        clear c22
        obtain ⟨y181,hy181⟩ : ∃ y_ : List (S31),y_ = (x7_2 ++ List.replicate 64 z31) := ⟨_,rfl⟩
        replace H : ((arrearslaw10_samePlan.f k2 t175 l2).bind fun t184 => (if t184 = true then (some ((y181.length : Int) == (wrap64 ((l2.length : Int) + 64)))) else (some false))) = some r := by first | (rw [hy181];with_reducible exact H) | (have H2_ := (Option.bind_some _ _).symm.trans H;rw [hy181];with_reducible exact H2_) | (have H2_ := (Option.bind_some _ _).symm.trans H;with_reducible exact H2_) | with_reducible exact H | (rw [hy181];exact H) | exact H
        have Ny181 := Aside0.mk hy181
        clear hy181
        replace H := Option.bind_eq_some_iff.mp H
        obtain ⟨t184,A230,H⟩ := H
        replace H : (if t184 = true then (some ((y181.length : Int) == (wrap64 ((l2.length : Int) + 64)))) else (some false)) = some r := H
        have A23 := Aside0.mk A230
        clear A230
        by_cases c24 : t184 = true
        ·
         subst c24
         have H1 : (some ((y181.length : Int) == (wrap64 ((l2.length : Int) + 64)))) = some r := by rw [if_pos rfl] at H;exact H
         clear H
         have H := H1
         clear H1
         obtain rfl := Option.some.inj H
         obtain ⟨Ao25,co25,eo25⟩ := Kd.R_slice HO_7.out
         subst eo25
         go_wp2_with (first | (at_builtin;refine Kd.R_append_zeros k31 (w0:=w) w.heap.size rfl (.tmp 37) (.const (.int .i64 64)) 22 3 31 (.agg #[(.int .i64 0),(.int .i64 0),(.int .i64 0),(.bool false)]) 32 rfl Try.underlying22 Try.underlying3 info31 rfl (by decide) (by omega) (.slice Ao25 x7_2.length co25) x7_2 z31 (64 : Int) (fun k_ => some k_ ≠ (v176 : Value).ownBlock) rfl rfl (k31_mkM _ _ _ z31 ) ?aF ?aO (by omega) ?aB ?aS ?aL ?_;(case aB => exact (by repeat (first | (with_reducible first | exact HB.out | apply below_alloc | apply pw_below_drewN | apply below_drew1) | exact HB.out)));(case aF => exact (fun k_ hk => Kd.fresh' (Kd.R_lt (by (with_reducible repeat (first | apply Kd.R_alloc | apply Kd.R_drewN | apply Kd.R_drew));exact HO_8.out)) k_ hk));(case aO => exact (by (with_reducible repeat (first | apply Kd.R_alloc | apply Kd.R_drewN | apply Kd.R_drew));exact HO_7.out));(case aS => exact (below_size (by repeat (first | (with_reducible first | exact HB.out | apply below_alloc | apply pw_below_drewN | apply below_drew1) | exact HB.out))));(case aL => have := LMc22.out;omega);intro v182 w26 ho hb hg hat;(first | rw [← Ny181.out] at ho | (simp only [Int.reduceToNat] at ho;rw [← Ny181.out] at ho));have n0_ := Aside0.mk (Kd.R_after (ok:=(fun _ => True)) (by (with_reducible repeat (first | apply Kd.R_alloc | apply Kd.R_drewN | apply Kd.R_drew));exact Kd.R_mono HO_8.out (fun _ hk => ⟨trivial,hk⟩)) hg hat);have n1_ := Aside0.mk (hb);have n2_ := Aside0.mk (ho);clear HO_8;clear HB;clear HO_7;have HO_8 := n0_;have HB := n1_;have HO183 := n2_;clear n0_ n1_ n2_;clear ho hb hg hat;obtain ⟨Ao27,co27,eo27⟩ := Kd.R_slice HO_8.out;subst eo27) | ((with_reducible refine gate_callee (f:=18) rfl ?_);refine goesL_ (some 41) rfl rfl Try.func18 (by kernel_rfl) rfl #[.slice Ao27 t175.length co27, .slice A2 l2.length c2] rfl (by (try simp only [List.map_toArray,List.map_cons,List.map_nil]);first | done | rfl | (simp only [List.length_drop,List.length_take];rfl)) ?_;(with_reducible refine (arrearslaw10_samePlan.calls k2 _ _ t175 _ _ l2 true _ ?side1 ?side2 ?side3 ?side4 A23.out).mono ?_);(case side1 => repeat (first | exact (Kd.R_reads' HO_8.out).2.2 | (with_reducible refine Kd.C_alloc ?_ _) | (with_reducible refine Kd.C_drewN ?_ _) | (with_reducible refine Kd.C_drew ?_)));(case side2 => exact (Kd.R_reads' HO_8.out).2.1);(case side3 => repeat (first | exact (Kd.C_below HR2.out HB.out) | (with_reducible refine Kd.C_alloc ?_ _) | (with_reducible refine Kd.C_drewN ?_ _) | (with_reducible refine Kd.C_drew ?_)));(case side4 => exact HC2.out);rintro e w' ⟨rfl,⟨nd,rfl⟩⟩;refine ⟨_,rfl,?_⟩;obtain ⟨Ao28,co28,eo28⟩ := Kd.R_slice HO183.out;subst eo28))
         go_ret
         exact ⟨by first | rfl | (simp [errW_none,errW_some] <;> rfl) | (simp [*,errW_none,errW_some] <;> rfl),by repeat (first | (with_reducible first | exact HB.out | apply below_alloc | apply pw_below_drewN | apply below_drew1) | exact HB.out)⟩
        ·
         replace c24 := Bool.eq_false_iff.mpr c24
         subst c24
         have H1 : (some false) = some r := by rw [if_neg (show ¬ (false = true) by decide)] at H;exact H
         clear H
         have H := H1
         clear H1
         obtain rfl := Option.some.inj H
         obtain ⟨Ao29,co29,eo29⟩ := Kd.R_slice HO_7.out
         subst eo29
         go_wp2_with (first | (at_builtin;refine Kd.R_append_zeros k31 (w0:=w) w.heap.size rfl (.tmp 37) (.const (.int .i64 64)) 22 3 31 (.agg #[(.int .i64 0),(.int .i64 0),(.int .i64 0),(.bool false)]) 32 rfl Try.underlying22 Try.underlying3 info31 rfl (by decide) (by omega) (.slice Ao29 x7_2.length co29) x7_2 z31 (64 : Int) (fun k_ => some k_ ≠ (v176 : Value).ownBlock) rfl rfl (k31_mkM _ _ _ z31 ) ?aF ?aO (by omega) ?aB ?aS ?aL ?_;(case aB => exact (by repeat (first | (with_reducible first | exact HB.out | apply below_alloc | apply pw_below_drewN | apply below_drew1) | exact HB.out)));(case aF => exact (fun k_ hk => Kd.fresh' (Kd.R_lt (by (with_reducible repeat (first | apply Kd.R_alloc | apply Kd.R_drewN | apply Kd.R_drew));exact HO_8.out)) k_ hk));(case aO => exact (by (with_reducible repeat (first | apply Kd.R_alloc | apply Kd.R_drewN | apply Kd.R_drew));exact HO_7.out));(case aS => exact (below_size (by repeat (first | (with_reducible first | exact HB.out | apply below_alloc | apply pw_below_drewN | apply below_drew1) | exact HB.out))));(case aL => have := LMc22.out;omega);intro v182 w30 ho hb hg hat;(first | rw [← Ny181.out] at ho | (simp only [Int.reduceToNat] at ho;rw [← Ny181.out] at ho));have n0_ := Aside0.mk (Kd.R_after (ok:=(fun _ => True)) (by (with_reducible repeat (first | apply Kd.R_alloc | apply Kd.R_drewN | apply Kd.R_drew));exact Kd.R_mono HO_8.out (fun _ hk => ⟨trivial,hk⟩)) hg hat);have n1_ := Aside0.mk (hb);have n2_ := Aside0.mk (ho);clear HO_8;clear HB;clear HO_7;have HO_8 := n0_;have HB := n1_;have HO183 := n2_;clear n0_ n1_ n2_;clear ho hb hg hat;obtain ⟨Ao31,co31,eo31⟩ := Kd.R_slice HO_8.out;subst eo31) | ((with_reducible refine gate_callee (f:=18) rfl ?_);refine goesL_ (some 41) rfl rfl Try.func18 (by kernel_rfl) rfl #[.slice Ao31 t175.length co31, .slice A2 l2.length c2] rfl (by (try simp only [List.map_toArray,List.map_cons,List.map_nil]);first | done | rfl | (simp only [List.length_drop,List.length_take];rfl)) ?_;(with_reducible refine (arrearslaw10_samePlan.calls k2 _ _ t175 _ _ l2 false _ ?side1 ?side2 ?side3 ?side4 A23.out).mono ?_);(case side1 => repeat (first | exact (Kd.R_reads' HO_8.out).2.2 | (with_reducible refine Kd.C_alloc ?_ _) | (with_reducible refine Kd.C_drewN ?_ _) | (with_reducible refine Kd.C_drew ?_)));(case side2 => exact (Kd.R_reads' HO_8.out).2.1);(case side3 => repeat (first | exact (Kd.C_below HR2.out HB.out) | (with_reducible refine Kd.C_alloc ?_ _) | (with_reducible refine Kd.C_drewN ?_ _) | (with_reducible refine Kd.C_drew ?_)));(case side4 => exact HC2.out);rintro e w' ⟨rfl,⟨nd,rfl⟩⟩;refine ⟨_,rfl,?_⟩))
         go_ret
         exact ⟨by first | rfl | (simp [errW_none,errW_some] <;> rfl) | (simp [*,errW_none,errW_some] <;> rfl),by repeat (first | (with_reducible first | exact HB.out | apply below_alloc | apply pw_below_drewN | apply below_drew1) | exact HB.out)⟩
       ·
        rw [if_neg c22] at H
        exact absurd H (by simp)

end Go.Proofs.Ytncfoaglmggdhaa.Y
