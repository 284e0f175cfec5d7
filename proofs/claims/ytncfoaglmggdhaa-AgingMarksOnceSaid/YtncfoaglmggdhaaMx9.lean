-- Written by stubprint.py (wip/) of this work, over the kit's print.py; parts by hand.
import Derived.Test.YtncfoaglmggdhaaMx0
namespace Go.Proofs.Ytncfoaglmggdhaa.M
open Go.RowKit Go.Proofs.YtncfoaglmggdhaaW.PrintWords Go.Proofs.YtncfoaglmggdhaaW.PrintLast Go.Proofs.YtncfoaglmggdhaaW.PrintMore
attribute [local go_sem] max2_int min2_int max_two min_two max_three min_three max_four min_four   -- for this text's walks alone
set_option linter.unusedVariables false
set_option linter.unusedSimpArgs false

/-! ### aging_Mark: function 22 (by hand) -/
def aging_Mark.markOne (out : List S31) (i : Int) : List S31 := if 0 ≤ i ∧ i < out.length then out.set i.toNat ⟨(rd_T31 out i).f0, (rd_T31 out i).f1, (rd_T31 out i).f2, true⟩ else out
def aging_Mark.markAll (l : List S31) (is : List Int) : List S31 := is.foldl aging_Mark.markOne l
def aging_Mark.f (l0 : List S31) (l1 : List Int) : Option (List S31) := if l0.length < 4398046511104 then some (aging_Mark.markAll l0 l1) else none
theorem aging_Mark.markOne_len (out : List S31) (i : Int) : (aging_Mark.markOne out i).length = out.length := by unfold aging_Mark.markOne; split <;> simp
theorem aging_Mark.markAll_len (l : List S31) (is : List Int) : (aging_Mark.markAll l is).length = l.length := by
  unfold aging_Mark.markAll
  induction is generalizing l with
  | nil => rfl
  | cons a is ih => rw [List.foldl_cons, ih, aging_Mark.markOne_len]
theorem aging_Mark.markAll_take (l : List S31) (is : List Int) (k : Nat) (h : k < is.length) : aging_Mark.markAll l (is.take (k + 1)) = aging_Mark.markOne (aging_Mark.markAll l (is.take k)) (rd is k) := by
  unfold aging_Mark.markAll
  rw [List.take_succ_eq_append_getElem h, List.foldl_append]
  simp [rd, h]

set_option maxRecDepth 100000 in
set_option maxHeartbeats 2000000 in
theorem aging_Mark.calls (A0 : Option Addr) (c0 : Nat) (l0 : List S31) (A1 : Option Addr) (c1 : Nat) (l1 : List Int) (r : List S31) (w : World) (hr0 : Kd.C k31 w A0 l0.length l0) (hc0 : l0.length ≤ c0) (hr1 : Kd.C (Kd.int .i64) w A1 l1.length l1) (hc1 : l1.length ≤ c1) (h : aging_Mark.f l0 l1 = some r) :
    Calls Try.prog 22 #[.slice A0 l0.length c0, .slice A1 l1.length c1] w fun e w' => ∃ v0_ : Value, e = .returned (v0_) ∧ Kd.R k31 31 w' w.heap.size (fun _ => True) v0_ r ∧ Below w.heap.size w w' := by
  have HR0 := Aside0.mk hr0
  have HR1 := Aside0.mk hr1
  have hmax := hr1.2.1
  unfold aging_Mark.f at h
  split at h
  case isFalse => cases h
  rename_i hlen
  have e := Option.some.inj h
  subst e
  have HL := Aside0.mk hlen
  clear hr0 hr1 h hlen
  have HB := Aside0.mk (Below.refl w.heap.size w)
  go_enter Try.func22, Try.ntmps22
  go_wp2_with ((with_reducible refine gate_builtin (b := .append) (xs := #[.const (.slice none 0 0), .tmp 8]) rfl ?_); at_builtin; refine Kd.R_append_rows k31 (w0 := w) w.heap.size rfl (.const (.slice none 0 0)) (.tmp 8) 22 31 (.agg #[(.int .i64 0), (.int .i64 0), (.int .i64 0), (.bool false)]) 32 rfl Try.underlying22 info31 rfl (by decide) (by omega) (.slice none 0 0) ([] : List (S31)) l0 _ _ _ (fun _ => True) (fun _ => False) rfl rfl ?aO ?aR (fun _ _ h => h) (fun _ h => h.elim) ?aF ?aB ?aS ?aL ?_; (case aR => exact HR0.out); (case aB => exact HB.out); (case aF => exact (fun _ _ => trivial)); (case aO => exact ((Kd.R_nil _ _ _ _ (fun _ => True)))); (case aS => exact Nat.le_refl _); (case aL => have := HL.out; simp only [List.length_nil]; omega); intro v134 w3 ho hb hg hat; rw [List.nil_append] at ho; have HO := Aside0.mk ho; have HBn := Aside0.mk hb; clear ho hb hg hat; obtain ⟨A, cc, rfl, hle, hC⟩ := Kd.R_reads HO.out; clear hC)
  go_loopw [12] (fun i wr => ∃ (k : Nat), k ≤ l1.length ∧ i = .int .i64 k ∧ Aside0 (Kd.R k31 31 wr w.heap.size (fun _ => True) (.slice A l0.length cc) (aging_Mark.markAll l0 (l1.take k))) ∧ Aside0 (Below w.heap.size w wr)) (fun i _ => l1.length - (intOf i).toNat)
  case atStart => exact ⟨0, by omega, rfl, ⟨HO.out⟩, HBn⟩
  case round =>
    obtain ⟨k, hk, rfl, HR, HBr⟩ := hrel
    by_cases hlt : k < l1.length
    · obtain ⟨ad, e, hc⟩ := Kd.at_int HR1.out k (by omega) (by omega)
      cases e
      rw [Int.toNat_natCast] at hc
      replace hc := pw_cell_below HBr.out hc
      obtain ⟨x, ex⟩ : ∃ x, x = rd l1 (k : Int) := ⟨_, rfl⟩
      rw [← ex] at hc
      have HX := Aside0.mk ex
      clear ex
      have HM := Aside0.mk (show aging_Mark.markAll l0 (l1.take (k + 1)) = aging_Mark.markOne (aging_Mark.markAll l0 (l1.take k)) x by rw [HX.out]; exact aging_Mark.markAll_take l0 l1 k hlt)
      have hml := aging_Mark.markAll_len l0 (l1.take k)
      by_cases h0 : 0 ≤ x
      · by_cases h1 : x < (l0.length : Int)
        · have HRM := Aside0.mk hml
          have hpos : 0 < (aging_Mark.markAll l0 (l1.take k)).length := by omega
          obtain ⟨g, cap, hv, hbg, hgl, cells, hcells⟩ := Kd.R_form HR.out hpos
          rw [hml] at hv
          injection hv with hA _ hcc
          subst hA hcc
          have HD := Aside0.mk (Kd.R_reads' HR.out).2.2
          obtain ⟨ad2, e2, hd0, hd1, hd2, hd3⟩ := at_T31 HD.out x h0 (by omega)
          injection e2 with e2
          subst e2
          clear hml hpos
          rw [add_plain] at hd0 hd1 hd2 hd3
          have HC := Aside0.mk (show ∀ j u, [Value.int .i64 (rd_T31 (aging_Mark.markAll l0 (l1.take k)) x).f0, .int .i64 (rd_T31 (aging_Mark.markAll l0 (l1.take k)) x).f1, .int .i64 (rd_T31 (aging_Mark.markAll l0 (l1.take k)) x).f2, .bool (rd_T31 (aging_Mark.markAll l0 (l1.take k)) x).f3][j]? = some u → wr.cell? ⟨g, x.toNat * k31.sz + j, none⟩ = some u from by
            intro j u hj
            match j, hj with
            | 0, hj => cases hj; exact hd0
            | 1, hj => cases hj; exact hd1
            | 2, hj => cases hj; exact hd2
            | 3, hj => cases hj; exact hd3)
          clear hd0 hd1 hd2 hd3 hcells
          have t0 : decide (0 ≤ x) = true := decide_eq_true h0
          have t1 : decide (x < (l0.length : Int)) = true := decide_eq_true h1
          go_wp2_with (refine Kd.R_store k31 (w0 := w) w.heap.size rfl rfl 4 (.tmp 27) (.const (.bool true)) rfl 31 (g := g) (n := l0.length) (cap := cc) x 3 (aging_Mark.markAll l0 (l1.take k)) ⟨(rd_T31 (aging_Mark.markAll l0 (l1.take k)) x).f0, (rd_T31 (aging_Mark.markAll l0 (l1.take k)) x).f1, (rd_T31 (aging_Mark.markAll l0 (l1.take k)) x).f2, true⟩ (.bool true) [.bool true] [.int .i64 (rd_T31 (aging_Mark.markAll l0 (l1.take k)) x).f0, .int .i64 (rd_T31 (aging_Mark.markAll l0 (l1.take k)) x).f1, .int .i64 (rd_T31 (aging_Mark.markAll l0 (l1.take k)) x).f2, .bool (rd_T31 (aging_Mark.markAll l0 (l1.take k)) x).f3] (fun _ => True) (fun _ => False) rfl rfl rfl rfl ?ht ?h1 HR.out h0 (of_decide_eq_true t1) rfl ?hcc (Nat.le_refl _) ?hM (fun _ h => h.elim) HBr.out ?_; (case ht => kernel_rfl); (case h1 => simp [Value.oneCell']); (case hcc => exact HC.out); (case hM => exact k31_mkM _ _ _ _); intro w1 ho hb hg; clear hg; have HO1 := Aside0.mk ho; have HB1 := Aside0.mk hb; clear ho hb)
          go_roundw
          case rel => exact ⟨k + 1, by omega, by go_num, ⟨by rw [HM.out]; unfold aging_Mark.markOne; rw [if_pos ⟨h0, by rw [HRM.out]; exact of_decide_eq_true t1⟩]; exact HO1.out⟩, HB1⟩
          case measure => simp [intOf]; omega
        · have HRM := Aside0.mk hml
          clear hml
          have t0 : decide (0 ≤ x) = true := decide_eq_true h0
          have t1 : decide (x < (l0.length : Int)) = false := decide_eq_false h1
          have H1 := Aside0.mk h1
          clear h1
          go_wp2
          go_roundw
          case rel => exact ⟨k + 1, by omega, by go_num, ⟨by rw [HM.out]; unfold aging_Mark.markOne; rw [if_neg (fun h => H1.out (by have := HRM.out; omega))]; exact HR.out⟩, HBr⟩
          case measure => simp [intOf]; omega
      · have t0 : decide (0 ≤ x) = false := decide_eq_false h0
        have H0 := Aside0.mk h0
        clear hml h0
        go_wp2
        go_roundw
        case rel => exact ⟨k + 1, by omega, by go_num, ⟨by rw [HM.out]; unfold aging_Mark.markOne; rw [if_neg (fun h => H0.out h.1)]; exact HR.out⟩, HBr⟩
        case measure => simp [intOf]; omega
    · have hR := HR.out
      rw [List.take_of_length_le (by omega)] at hR
      have HR2 := Aside0.mk hR
      clear hR
      go_wp2
      go_ret
      exact ⟨_, rfl, HR2.out, HBr.out⟩

end Go.Proofs.Ytncfoaglmggdhaa.M
