/- FrameFresh: the walk. No condition but the payloads' bytes and bulk, and the package's table. -/
import Derived.Test.YtgfjmpnlkjocaaaDoorFD
import Derived.Test.YtgfjmpnlkjocaaaDoorJFrameG
import Derived.Test.YtgfjmpnlkjocaaaDoorJFrameS
namespace Go.Proofs.YtgfjmpnlkjocaaaDoor.J
open Go.RowKit Go.Proofs.YtgfjmpnlkjocaaaDoorW.PrintWords Go.Proofs.YtgfjmpnlkjocaaaDoorW.PrintLast Go.Proofs.YtgfjmpnlkjocaaaDoorW.PrintMore
attribute [local go_sem] max2_int min2_int max_two min_two max_three min_three max_four min_four
set_option linter.unusedVariables false
set_option linter.unusedSimpArgs false
set_option maxRecDepth 100000
theorem decode_at (ps : List (List Int)) (hg : ∀ p ∈ ps, Good p) (i : Nat) (hi : i < ps.length) : frame_Decode.f (jn ps) ((jn (ps.take i)).length : Int) = some (ps[i], ((jn (ps.take (i + 1))).length : Int), 0) := by
  have hs : jn ps = jn (ps.take i) ++ (fr ps[i] ++ jn (ps.drop (i + 1))) := by
    rw [← jn_cons, ← List.drop_eq_getElem_cons hi, ← jn_append, List.take_append_drop]
  have hd : (jn ps).drop (jn (ps.take i)).length = fr ps[i] ++ jn (ps.drop (i + 1)) := by rw [hs, List.drop_left]
  have hb := jn_bytes ps hg
  have hle : (jn (ps.take i)).length ≤ (jn ps).length := jn_take_le ps i
  have e1 : spec (jn ps) (jn (ps.take i)).length = (true, (ps[i].length : Int), 0) := by rw [spec_drop, hd, spec_fr _ _ (hg _ (List.getElem_mem hi))]
  unfold frame_Decode.f
  rw [if_neg (by omega), Int.toNat_natCast, nx_is _ hb _ hle, e1, if_pos rfl, Option.bind_some, pay_drop, hd, pay_fr, jn_take ps i hi, List.length_append, fr_len]
  dsimp only
  congr 3
  omega
/-- A row of bytes, its blocks between two marks. -/
structure RG (w : World) (N a b : Nat) (v : Value) (l : List Int) : Prop where
  row : Kd.R By 5 w N (fun k => a ≤ k ∧ k < b) v l
  hi : b ≤ w.heap.size
theorem rg_of {w w' : World} {N : Nat} {v : Value} {l : List Int} (h : Kd.R By 5 w' w.heap.size (fun _ => True) v l) (hN : N ≤ w.heap.size) : RG w' N w.heap.size w'.heap.size v l := ⟨Kd.R_mono (Kd.R_lower (Kd.R_bound h) hN) (fun k hk => ⟨hk.2.1, hk.2.2.1⟩), Nat.le_refl _⟩
theorem RG.next {w w' : World} {N a b : Nat} {v : Value} {l : List Int} (h : RG w N a b v l) (hb : Below w.heap.size w w') : RG w' N a b v l := ⟨Kd.R_step h.row (fun k _ hlt => hb.block k hlt), Nat.le_trans h.hi hb.size⟩
theorem RG.upd {w w' : World} {N a b : Nat} {v : Value} {l : List Int} {S : Nat → Prop} (h : RG w N a b v l) (hu : Upd w w' S) (hS : ∀ k, a ≤ k → k < b → ¬ S k) : RG w' N a b v l := ⟨Kd.R_step h.row (fun k hk hlt => hu.block k hlt (hS k hk.1 hk.2)), Nat.le_trans h.hi hu.size⟩
theorem RG.reads {w : World} {N a b n c : Nat} {A : Option Addr} {l : List Int} (h : RG w N a b (.slice A n c) l) : Kd.C By w A l.length l := (Kd.R_reads' h.row).2.2
theorem RG.slice {w : World} {N a b : Nat} {v : Value} {l : List Int} (h : RG w N a b v l) : ∃ A c, v = .slice A l.length c ∧ l.length ≤ c := rsl h.row
/-- What the shelf holds behind j rounds. -/
def outs (ps : List (List Int)) (j : Nat) : List (List Int) := ps ++ ps ++ (ps.take j).flatMap (fun p => [p, fr p, p, fr p])
theorem outs_zero (ps : List (List Int)) : outs ps 0 = ps ++ ps := by simp [outs]
theorem outs_succ (ps : List (List Int)) (j : Nat) (h : j < ps.length) : outs ps (j + 1) = outs ps j ++ [ps[j]] ++ [fr ps[j]] ++ [ps[j]] ++ [fr ps[j]] := by
  unfold outs
  rw [List.take_succ_eq_append_getElem h, List.flatMap_append]
  simp
theorem outs_len (ps : List (List Int)) (j : Nat) (h : j ≤ ps.length) : (outs ps j).length = 2 * ps.length + 4 * j := by
  induction j with
  | zero => rw [outs_zero]; simp; omega
  | succ j ih => rw [outs_succ ps j (by omega)]; simp only [List.length_append, List.length_singleton]; rw [ih (by omega)]; omega
theorem outs_mem (ps : List (List Int)) (j : Nat) : ∀ x ∈ outs ps j, ∃ p ∈ ps, x = p ∨ x = fr p := by
  intro x hx
  unfold outs at hx
  rcases List.mem_append.1 hx with hx | hx
  · rcases List.mem_append.1 hx with hx | hx <;> exact ⟨x, hx, .inl rfl⟩
  · obtain ⟨p, hp, hx⟩ := List.mem_flatMap.1 hx
    refine ⟨p, List.mem_of_mem_take hp, ?_⟩
    simp only [List.mem_cons, List.not_mem_nil, or_false] at hx
    rcases hx with rfl | rfl | rfl | rfl <;> simp
set_option maxHeartbeats 8000000 in
theorem fresh_calls (W : World) (A0 : Option Addr) (c0 : Nat) (ps : List (List Int)) (h0 : Kd.C (Kd.slice 5 By) W A0 ps.length ps) (h0c : ps.length ≤ c0) (hL : Laid W) (hby : ∀ p ∈ ps, Bytes p) (hpl : ps.length ≤ 1048576) (hpb : ∀ p ∈ ps, p.length ≤ 1048576) :
    Calls Tryd.prog 12 #[.slice A0 ps.length c0] W fun e W' => e = .returned (.bool true) ∧ Below W.heap.size W W' := by
  have H0 := Aside0.mk h0
  have HL := Aside0.mk hL
  have HC := Aside0.mk h0c
  have HF := Aside0.mk (fits_is ps hpl hpb (2 * ps.length + 3) (by omega))
  clear h0 hL
  rcases HF.out with hf | ⟨hf, hsm, hj⟩
  · have HFF := Aside0.mk hf
    clear hf HF
    go_enter Tryd.func12, Tryd.ntmps12
    go_wp2_with fail
    refine (arrearslaw6_fits.calls _ _ _ _ _ _ H0.out HC.out HFF.out).mono ?_
    rintro e w1 ⟨rfl, n1, rfl⟩
    go_wp2_with fail
    go_ret
    exact ⟨rfl, pw_below_drewN (Below.refl _ _) _⟩
  have HFF := Aside0.mk hf
  by_cases h40 : (40 : Int) < (ps.length : Int)
  · have d40 : decide ((40 : Int) < (ps.length : Int)) = true := decide_eq_true h40
    clear hf HF h40
    go_enter Tryd.func12, Tryd.ntmps12
    go_wp2_with fail
    refine (arrearslaw6_fits.calls _ _ _ _ _ _ H0.out HC.out HFF.out).mono ?_
    rintro e w1 ⟨rfl, n1, rfl⟩
    go_wp2_with fail
    go_ret
    exact ⟨rfl, pw_below_drewN (Below.refl _ _) _⟩
  have d40 : decide ((40 : Int) < (ps.length : Int)) = false := decide_eq_false h40
  have hp40 : ps.length ≤ 40 := by omega
  have HG := Aside0.mk (show ∀ p ∈ ps, Good p from fun p hp => ⟨hby p hp, hsm p hp⟩)
  have HSM := Aside0.mk hsm
  have HTW := Aside0.mk (twin_is ps (by omega) hsm (ps.length + 4194311) (by omega))
  have HJN := Aside0.mk (join_is ps (by omega) HG.out (by omega) (ps.length + 1) (by omega))
  have HSZ := Aside0.mk (size_is ps (by omega) (by omega) (ps.length + 1) (by omega))
  have HSC := Aside0.mk (scan_jn ps HG.out (by omega) (ps.length + 1) (by omega))
  have HCP := Aside0.mk (copied_is (jn ps) (by omega) ((jn ps).length + 1) (by omega))
  have HAL := Aside0.mk (alike_self ps hsm (by omega) (ps.length + 4194311) (by omega))
  have HJL := Aside0.mk hj
  have hji : ((jn ps).length : Int) ≤ 6000000 := by omega
  obtain ⟨J, hJ⟩ : ∃ J, J = jn ps := ⟨_, rfl⟩
  rw [← hJ] at HJN HSZ HSC HCP HJL hji
  have HJ := Aside0.mk hJ
  clear hf HF h40 hsm hby hpb hpl hj hJ
  go_enter Tryd.func12, Tryd.ntmps12
  go_wp2_with fail
  refine (arrearslaw6_fits.calls _ _ _ _ _ _ H0.out HC.out HFF.out).mono ?_
  rintro e w0 ⟨rfl, n0, rfl⟩
  have HB0 := Aside0.mk (pw_below_drewN (Below.refl W.heap.size W) n0)
  generalize W.drewN n0 = w0 at HB0 ⊢
  go_wp2_with fail
  refine (arrearslaw6_twin.calls _ _ _ _ _ _ (Kd.C_below H0.out HB0.out) HC.out HTW.out).mono ?_
  rintro e w1 ⟨v1, rfl, hs1, hb1⟩
  obtain ⟨B1, b1, rfl, hc1, hC1⟩ := Kd.S_reads hs1
  have HB1 := Aside0.mk (HB0.out.trans (hb1.mono HB0.out.size))
  have HC1 := Aside0.mk hC1
  have HC1c := Aside0.mk hc1
  clear hs1 hb1 hC1 hc1
  go_wp2_with fail
  refine (frame_Join.calls _ _ _ _ _ _ _ HC1.out HC1c.out (laid_at HL.out HB1.out) HJN.out).mono ?_
  rintro e w2 ⟨v2, rfl, hr2, hb2⟩
  have HB2 := Aside0.mk (HB1.out.trans (hb2.mono HB1.out.size))
  have HFI := Aside0.mk (rg_of hr2 HB1.out.size)
  obtain ⟨Af, cf, rfl, hcf⟩ := HFI.out.slice
  have HCF := Aside0.mk hcf
  clear hr2 hb2 hcf
  go_wp2_with fail
  refine (arrearslaw6_size.calls _ _ _ _ _ _ (Kd.C_below H0.out HB2.out) HC.out HSZ.out).mono ?_
  rintro e w2' ⟨rfl, n2, rfl⟩
  have HD2 := Aside0.mk (pw_below_drewN (Below.refl w2.heap.size w2) n2)
  have HB2 := Aside0.mk (HB2.out.trans (HD2.out.mono HB2.out.size))
  have HFI := Aside0.mk (HFI.out.next HD2.out)
  have HZ2 := Aside0.mk (show (w2.drewN n2).heap.size = w2.heap.size by simp)
  generalize w2.drewN n2 = w2' at HD2 HB2 HFI HZ2 ⊢
  go_wp2_with fail
  refine (arrearslaw6_copied.calls _ _ _ _ _ _ HFI.out.reads HCF.out HCP.out).mono ?_
  rintro e w3 ⟨v3, rfl, hr3, hb3⟩
  have HKE := Aside0.mk (rg_of hr3 HB2.out.size)
  have HT3 := Aside0.mk hb3.size
  have HFI := Aside0.mk (HFI.out.next hb3)
  have HB3 := Aside0.mk (HB2.out.trans (hb3.mono HB2.out.size))
  obtain ⟨Ak, ck, rfl, hck⟩ := HKE.out.slice
  have HCK := Aside0.mk hck
  clear hr3 hb3 hck
  go_wp2_with fail
  refine (frame_Scan.calls _ _ _ _ _ _ _ _ HFI.out.reads HCF.out (laid_at HL.out HB3.out) HSC.out).mono ?_
  rintro e w4 ⟨v4, rfl, hs4, hb4⟩
  have HFI := Aside0.mk (HFI.out.next hb4)
  have HKE := Aside0.mk (HKE.out.next hb4)
  have HT4 := Aside0.mk hb4.size
  have HB4 := Aside0.mk (HB3.out.trans (hb4.mono HB3.out.size))
  have HS4 := Aside0.mk (Kd.S_mono (ok' := fun k => w3.heap.size ≤ k ∧ k < w4.heap.size) (Kd.S_lower (Kd.S_bound hs4) HB3.out.size) (fun k hk => ⟨hk.2.1, hk.2.2.1⟩))
  obtain ⟨B4, b4, rfl⟩ := Kd.S_slice hs4
  clear hs4 hb4
  go_wp2_with fail
  refine (frame_Scan.calls _ _ _ _ _ _ _ _ HFI.out.reads HCF.out (laid_at HL.out HB4.out) HSC.out).mono ?_
  rintro e w5 ⟨v5, rfl, hs5, hb5⟩
  have HFI := Aside0.mk (HFI.out.next hb5)
  have HKE := Aside0.mk (HKE.out.next hb5)
  have HT5 := Aside0.mk hb5.size
  have HS4 := Aside0.mk (Kd.S_below HS4.out hb5)
  have HB5 := Aside0.mk (HB4.out.trans (hb5.mono HB4.out.size))
  have HS5 := Aside0.mk (Kd.S_mono (ok' := fun k => w4.heap.size ≤ k ∧ k < w5.heap.size) (Kd.S_lower (Kd.S_bound hs5) HB4.out.size) (fun k hk => ⟨hk.2.1, hk.2.2.1⟩))
  obtain ⟨B5, b5, rfl⟩ := Kd.S_slice hs5
  clear hs5 hb5
  go_wp2_with fail
  refine (arrearslaw6_twin.calls _ _ _ _ _ _ (Kd.C_below H0.out HB5.out) HC.out HTW.out).mono ?_
  rintro e w6 ⟨v6, rfl, hs6, hb6⟩
  obtain ⟨B6, b6, rfl, hc6, hC6⟩ := Kd.S_reads hs6
  have HB6 := Aside0.mk (HB5.out.trans (hb6.mono HB5.out.size))
  have HC6 := Aside0.mk hC6
  have HC6c := Aside0.mk hc6
  have HQ6 := Aside0.mk hb6
  clear hs6 hb6 hC6 hc6
  go_wp2_with fail
  refine (frame_Join.calls _ _ _ _ _ _ _ HC6.out HC6c.out (laid_at HL.out HB6.out) HJN.out).mono ?_
  rintro e w7 ⟨v7, rfl, hr7, hb7⟩
  have HOT := Aside0.mk (rg_of hr7 HB6.out.size)
  have HB7 := Aside0.mk (HB6.out.trans (hb7.mono HB6.out.size))
  have HQ7 := Aside0.mk (HQ6.out.trans (hb7.mono HQ6.out.size))
  have HFI := Aside0.mk (HFI.out.next HQ7.out)
  have HKE := Aside0.mk (HKE.out.next HQ7.out)
  have HS4 := Aside0.mk (Kd.S_below HS4.out HQ7.out)
  have HS5 := Aside0.mk (Kd.S_below HS5.out HQ7.out)
  obtain ⟨Ao, co, rfl, hco⟩ := HOT.out.slice
  have HCO := Aside0.mk hco
  have HZ6 := Aside0.mk (show w5.heap.size ≤ w6.heap.size from HQ6.out.size)
  have HZ7 := Aside0.mk (show w6.heap.size ≤ w7.heap.size from hb7.size)
  clear hr7 hb7 hco HQ6 HQ7
  go_wp2_with fail
  refine (arrearslaw6_alike.calls _ _ _ _ _ _ _ _ _ (Kd.S_reads' HS4.out).2.2 (Kd.S_reads' HS4.out).2.1 (Kd.C_below H0.out HB7.out) HC.out HAL.out).mono ?_
  rintro e w8a ⟨rfl, n8a, rfl⟩
  go_wp2_with fail
  refine (arrearslaw6_alike.calls _ _ _ _ _ _ _ _ _ (Kd.C_drewN (Kd.S_reads' HS5.out).2.2 _) (Kd.S_reads' HS5.out).2.1 (Kd.C_drewN (Kd.C_below H0.out HB7.out) _) HC.out HAL.out).mono ?_
  rintro e w8b ⟨rfl, n8b, rfl⟩
  go_wp2_with fail
  refine (same_t rfl rfl (Kd.C_drewN HOT.out.reads _) HCO.out (Kd.C_drewN HFI.out.reads _) HCF.out (by have := HJL.out; omega)).mono ?_
  rintro e w8c ⟨rfl, n8c, rfl⟩
  have HD8 := Aside0.mk (pw_below_drewN (Below.refl w7.heap.size w7) (n8a + n8b + n8c))
  have HZ8 := Aside0.mk (show (w7.drewN (n8a + n8b + n8c)).heap.size = w7.heap.size by simp)
  have HFI := Aside0.mk (HFI.out.next HD8.out)
  have HKE := Aside0.mk (HKE.out.next HD8.out)
  have HOT := Aside0.mk (HOT.out.next HD8.out)
  have HS4 := Aside0.mk (Kd.S_below HS4.out HD8.out)
  have HS5 := Aside0.mk (Kd.S_below HS5.out HD8.out)
  have HB8 := Aside0.mk (HB7.out.trans (HD8.out.mono HB7.out.size))
  go_upto_region 12 with fail
  obtain ⟨w8, hw8⟩ : ∃ w8, w8 = w7.drewN (n8a + n8b + n8c) := ⟨_, rfl⟩
  rw [← hw8] at HFI HKE HOT HS4 HS5 HB8 HZ8 ⊢
  clear hw8 HD8
  have HX0 := Aside0.mk (SR.nil w8 W.heap.size)
  have HP2 := Aside0.mk (show ([] : List (List Int)).length + ps.length ≤ 1000000 by simp; omega)
  have HP3 := Aside0.mk (show ps.length + ps.length ≤ 1000000 by omega)
  have HNN := Aside0.mk HB8.out.size
  go_upto_block 0 with (first | ((refine gate_builtin (b := .append) (xs := #[.tmp 91, .tmp 92]) rfl ?_); at_builtin; refine sr_append_all rfl (.tmp 91) (.tmp 92) rfl rfl rfl HX0.out HS4.out (fun _ _ => rfl) HP2.out HNN.out ?_; intro v9 w9 o9 hs9 hu9 ho9 hk9; rw [List.nil_append] at hs9; have HX9 := Aside0.mk hs9; have HU9 := Aside0.mk hu9; have HO9 := Aside0.mk ho9; have HS59 := Aside0.mk (Kd.S_step HS5.out (fun k hk hlt => hu9.block k hlt (fun h_ => by cases h_))); have HOK9 := Aside0.mk (show ∀ k, w4.heap.size ≤ k ∧ k < w5.heap.size → o9 k = 0 from fun k hk => by
      by_cases h_ : o9 k = 0
      · exact h_
      · rcases ho9 k h_ with h3 | h3 | h3
        · exact absurd rfl h3
        · omega
        · have := HZ6.out; have := HZ7.out; have := HZ8.out; omega); have HN9 := Aside0.mk (Nat.le_trans HNN.out hu9.size); clear hs9 hu9 ho9 hk9) | ((refine gate_builtin (b := .append) (xs := #[.tmp 94, .tmp 95]) rfl ?_); at_builtin; refine sr_append_all rfl (.tmp 94) (.tmp 95) rfl rfl rfl HX9.out HS59.out HOK9.out HP3.out HN9.out ?_; intro v10 w10 o10 hs10 hu10 ho10 hk10; have HX10 := Aside0.mk hs10; have HU10 := Aside0.mk hu10; have HO10 := Aside0.mk ho10; clear hs10 hu10 ho10 hk10) | fail)
  have HSS := Aside0.mk (show (w2.heap.size ≤ w3.heap.size ∧ w2'.heap.size ≤ w3.heap.size) ∧ w3.heap.size ≤ w5.heap.size ∧ w5.heap.size ≤ w6.heap.size ∧ w6.heap.size ≤ w7.heap.size ∧ w7.heap.size ≤ w8.heap.size from by have := HZ2.out; have := HT3.out; have := HT4.out; have := HT5.out; have := HZ6.out; have := HZ7.out; have := HZ8.out; omega)
  have HOZ := Aside0.mk (show ∀ k, o10 k ≠ 0 → (w3.heap.size ≤ k ∧ k < w5.heap.size) ∨ w8.heap.size ≤ k from fun k hk => by
    have h4 := HT4.out
    have h5 := HT5.out
    have h9 := HU9.out.size
    rcases HO10.out k hk with h_ | h_ | h_
    · rcases HO9.out k h_ with h_ | h_ | h_
      · exact absurd rfl h_
      · left; omega
      · right; omega
    · left; omega
    · right; omega)
  have HOY := Aside0.mk (show ∀ k, o9 k ≠ 0 → (w3.heap.size ≤ k ∧ k < w5.heap.size) ∨ w8.heap.size ≤ k from fun k hk => by
    have h5 := HT5.out
    rcases HO9.out k hk with h_ | h_ | h_
    · exact absurd rfl h_
    · left; omega
    · right; omega)
  have HFI := Aside0.mk ((HFI.out.upd HU9.out (fun k _ _ h_ => by cases h_)).upd HU10.out (fun k h1 h2 h3 => by have := HOY.out k (by omega); have := HSS.out; omega))
  have HKE := Aside0.mk ((HKE.out.upd HU9.out (fun k _ _ h_ => by cases h_)).upd HU10.out (fun k h1 h2 h3 => by have := HOY.out k (by omega); have := HSS.out; omega))
  have HOT := Aside0.mk ((HOT.out.upd HU9.out (fun k _ _ h_ => by cases h_)).upd HU10.out (fun k h1 h2 h3 => by have := HOY.out k (by omega); have := HSS.out; omega))
  have HB10 := Aside0.mk (HU10.out.below (HU9.out.below HB8.out (fun k h_ => by cases h_) HB8.out.size) (fun k h_ => by have := HOY.out k (by omega); have := HSS.out; have := HB3.out.size; have := HB8.out.size; omega) (Nat.le_trans HB8.out.size HU9.out.size))
  have HW810 := Aside0.mk (Nat.le_trans HU9.out.size HU10.out.size)
  clear HS4 HS5 HS59 HX0 HX9 HU9 HU10 HO9 HO10 HOK9 HP2 HP3 HNN HN9 HOY HZ2 HT3 HT4 HT5 HZ6 HZ7 HZ8 HB0 HB1 HB2 HB4 HB5 HB6 HB7 HC1 HC1c HC6 HC6c HD2
  have HDE := Aside0.mk (show ∀ (j : Nat) (h : j < ps.length), frame_Decode.f J ((jn (ps.take j)).length : Int) = some (ps[j], ((jn (ps.take (j + 1))).length : Int), 0) from fun j h => by rw [HJ.out]; exact decode_at ps HG.out j h)
  go_cut [14] (fun vo wx => ∃ own, Aside0 (SR wx W.heap.size own vo (outs ps ps.length)) ∧ Aside0 (RG wx W.heap.size w1.heap.size w2.heap.size (.slice Af J.length cf) J) ∧ Aside0 (RG wx W.heap.size w2'.heap.size w3.heap.size (.slice Ak J.length ck) J) ∧ Aside0 (RG wx W.heap.size w6.heap.size w7.heap.size (.slice Ao J.length co) J) ∧ Aside0 (Below W.heap.size W wx) ∧ Aside0 (∀ k, own k ≠ 0 → (w3.heap.size ≤ k ∧ k < w5.heap.size) ∨ w8.heap.size ≤ k))
  case first =>
    go_wp2_with fail
    go_loopw [14, 15, 16] (fun vo va i wr => ∃ j : Nat, j ≤ ps.length ∧ i = .int .i64 (j : Int) ∧ va = .int .i64 ((jn (ps.take j)).length : Int) ∧ ∃ own, Aside0 (SR wr W.heap.size own vo (outs ps j)) ∧ Aside0 (RG wr W.heap.size w1.heap.size w2.heap.size (.slice Af J.length cf) J) ∧ Aside0 (RG wr W.heap.size w2'.heap.size w3.heap.size (.slice Ak J.length ck) J) ∧ Aside0 (RG wr W.heap.size w6.heap.size w7.heap.size (.slice Ao J.length co) J) ∧ Aside0 (Below W.heap.size W wr) ∧ Aside0 (∀ k, own k ≠ 0 → (w3.heap.size ≤ k ∧ k < w5.heap.size) ∨ w8.heap.size ≤ k) ∧ Aside0 (w8.heap.size ≤ wr.heap.size)) (fun _ _ i _ => ps.length - (intOf i).toNat)
    case atStart => exact ⟨0, by omega, rfl, rfl, o10, ⟨by rw [outs_zero]; exact HX10.out⟩, HFI, HKE, HOT, HB10, HOZ, HW810⟩
    case round =>
      clear HFI HKE HOT HB10 HOZ HW810 HX10
      obtain ⟨j, hj, rfl, rfl, own, HX, HFI, HKE, HOT, HB, HO, HW⟩ := hrel
      have HXLT := Aside0.mk HX.out.lt
      by_cases hjn : j < ps.length
      · obtain ⟨ad, Ap, cp, hA0, x0, hcp, hCp⟩ := at_L1 H0.out (j : Int) (by omega) (by omega)
        subst hA0
        rw [rdL_at ps j hjn] at x0 hcp hCp
        rw [Int.toNat_natCast] at x0
        have hgp := HG.out ps[j] (List.getElem_mem hjn)
        have hde := HDE.out j hjn
        have HOS := Aside0.mk (outs_succ ps j hjn)
        have HOL := Aside0.mk (outs_len ps j hj)
        have hjt : (jn (ps.take (j + 1))).length = (jn (ps.take j)).length + (ps[j].length + 8) := by rw [jn_take ps j hjn, List.length_append, fr_len]
        have hjle : (jn (ps.take (j + 1))).length ≤ 6000000 := by have := jn_take_le ps (j + 1); have := HJL.out; rw [HJ.out] at this; omega
        obtain ⟨p, hp⟩ : ∃ p, p = ps[j] := ⟨_, rfl⟩
        rw [← hp] at x0 hcp hCp hgp hde HOS hjt
        obtain ⟨F, hF⟩ : ∃ F, F = fr p := ⟨_, rfl⟩
        have hfl : F.length = p.length + 8 := by rw [hF, fr_len]
        have hen := encode_is p hgp
        rw [← hF] at hen HOS
        have HCP2 := Aside0.mk (copied_is p (by have := hgp.2; omega) (p.length + 1) (by omega))
        have HGP := Aside0.mk hgp.2
        have HDE2 := Aside0.mk hde
        have HEN := Aside0.mk hen
        have HCC := Aside0.mk hCp
        have HCPc := Aside0.mk hcp
        have HFL := Aside0.mk hfl
        have HJT := Aside0.mk hjt
        obtain ⟨at_, hat⟩ : ∃ q, q = (jn (ps.take j)).length := ⟨_, rfl⟩
        obtain ⟨at2, hat2⟩ : ∃ q, q = (jn (ps.take (j + 1))).length := ⟨_, rfl⟩
        rw [← hat] at HDE2 HJT ⊢
        rw [← hat2] at HDE2 HJT hjle
        have HAT2 := Aside0.mk hat2
        have hidx : (j : Int) < (ps.length : Int) := by omega
        have hpb : (p.length : Int) ≤ 4194304 := by have := hgp.2; omega
        have hab : (at_ : Int) ≤ 6000000 := by have := HJT.out; omega
        clear hgp hde hp hF hfl hen hCp hcp hjt hat hat2 hjle hidx
        go_wp2_with fail
        refine (frame_Decode.calls _ _ _ _ _ _ _ _ HFI.out.reads HCF.out (laid_at HL.out HB.out) HDE2.out).mono ?_
        rintro e s1 ⟨v, rfl, hr, hb⟩
        have R1 := Aside0.mk (rg_of hr HB.out.size)
        obtain ⟨Aq1, cq1, rfl, hc⟩ := R1.out.slice
        have C1 := Aside0.mk hc
        have HFI := Aside0.mk (HFI.out.next hb)
        have HKE := Aside0.mk (HKE.out.next hb)
        have HOT := Aside0.mk (HOT.out.next hb)
        have HX := Aside0.mk (HX.out.next hb)
        have HB := Aside0.mk (HB.out.trans (hb.mono HB.out.size))
        have S1 := Aside0.mk hb.size
        have x1 := (HB.out.cell (World.block_lt_of_cell? _ _ x0)).trans x0
        have hidx : (j : Int) < (ps.length : Int) := by omega
        clear hr hb hc
        go_wp2_with fail
        refine (arrearslaw6_copied.calls _ _ _ _ _ _ (Kd.C_below HCC.out HB.out) HCPc.out HCP2.out).mono ?_
        rintro e s2 ⟨v, rfl, hr, hb⟩
        obtain ⟨Bc, bc, rfl, hc⟩ := rsl hr
        have CB := Aside0.mk (Kd.R_reads' hr).2.2
        have CBc := Aside0.mk hc
        have R1 := Aside0.mk (R1.out.next hb)
        have HFI := Aside0.mk (HFI.out.next hb)
        have HKE := Aside0.mk (HKE.out.next hb)
        have HOT := Aside0.mk (HOT.out.next hb)
        have HX := Aside0.mk (HX.out.next hb)
        have HB := Aside0.mk (HB.out.trans (hb.mono HB.out.size))
        have S2 := Aside0.mk hb.size
        clear hr hb hc x1
        go_wp2_with fail
        refine (frame_Encode.calls _ _ _ _ _ _ CB.out CBc.out (laid_at HL.out HB.out) HEN.out).mono ?_
        rintro e s3 ⟨v, rfl, hr, hb⟩
        have R2 := Aside0.mk (rg_of hr HB.out.size)
        obtain ⟨Aq2, cq2, rfl, hc⟩ := R2.out.slice
        have C2 := Aside0.mk hc
        have R1 := Aside0.mk (R1.out.next hb)
        have HFI := Aside0.mk (HFI.out.next hb)
        have HKE := Aside0.mk (HKE.out.next hb)
        have HOT := Aside0.mk (HOT.out.next hb)
        have HX := Aside0.mk (HX.out.next hb)
        have HB := Aside0.mk (HB.out.trans (hb.mono HB.out.size))
        have S3 := Aside0.mk hb.size
        clear hr hb hc
        go_wp2_with fail
        refine (frame_Decode.calls _ _ _ _ _ _ _ _ HFI.out.reads HCF.out (laid_at HL.out HB.out) HDE2.out).mono ?_
        rintro e s4 ⟨v, rfl, hr, hb⟩
        have R3 := Aside0.mk (rg_of hr HB.out.size)
        obtain ⟨Aq3, cq3, rfl, hc⟩ := R3.out.slice
        have C3 := Aside0.mk hc
        have R1 := Aside0.mk (R1.out.next hb)
        have R2 := Aside0.mk (R2.out.next hb)
        have HFI := Aside0.mk (HFI.out.next hb)
        have HKE := Aside0.mk (HKE.out.next hb)
        have HOT := Aside0.mk (HOT.out.next hb)
        have HX := Aside0.mk (HX.out.next hb)
        have HB := Aside0.mk (HB.out.trans (hb.mono HB.out.size))
        have S4 := Aside0.mk hb.size
        have x4 := (HB.out.cell (World.block_lt_of_cell? _ _ x0)).trans x0
        clear hr hb hc
        go_wp2_with fail
        refine (arrearslaw6_copied.calls _ _ _ _ _ _ (Kd.C_below HCC.out HB.out) HCPc.out HCP2.out).mono ?_
        rintro e s5 ⟨v, rfl, hr, hb⟩
        obtain ⟨Bd, bd, rfl, hc⟩ := rsl hr
        have CD := Aside0.mk (Kd.R_reads' hr).2.2
        have CDc := Aside0.mk hc
        have R1 := Aside0.mk (R1.out.next hb)
        have R2 := Aside0.mk (R2.out.next hb)
        have R3 := Aside0.mk (R3.out.next hb)
        have HFI := Aside0.mk (HFI.out.next hb)
        have HKE := Aside0.mk (HKE.out.next hb)
        have HOT := Aside0.mk (HOT.out.next hb)
        have HX := Aside0.mk (HX.out.next hb)
        have HB := Aside0.mk (HB.out.trans (hb.mono HB.out.size))
        have S5 := Aside0.mk hb.size
        clear hr hb hc x4
        go_wp2_with fail
        refine (frame_Encode.calls _ _ _ _ _ _ CD.out CDc.out (laid_at HL.out HB.out) HEN.out).mono ?_
        rintro e s6 ⟨v, rfl, hr, hb⟩
        have R4 := Aside0.mk (rg_of hr HB.out.size)
        obtain ⟨Aq4, cq4, rfl, hc⟩ := R4.out.slice
        have C4 := Aside0.mk hc
        have R1 := Aside0.mk (R1.out.next hb)
        have R2 := Aside0.mk (R2.out.next hb)
        have R3 := Aside0.mk (R3.out.next hb)
        have HFI := Aside0.mk (HFI.out.next hb)
        have HKE := Aside0.mk (HKE.out.next hb)
        have HOT := Aside0.mk (HOT.out.next hb)
        have HX := Aside0.mk (HX.out.next hb)
        have HB := Aside0.mk (HB.out.trans (hb.mono HB.out.size))
        have S6 := Aside0.mk hb.size
        have x6 := (HB.out.cell (World.block_lt_of_cell? _ _ x0)).trans x0
        clear hr hb hc
        go_wp2_with fail
        refine (same_t rfl rfl R1.out.reads C1.out (Kd.C_below HCC.out HB.out) HCPc.out (by have := HGP.out; omega)).mono ?_
        rintro e t1 ⟨rfl, n1, rfl⟩
        have hne : ((F.length : Int) != (p.length : Int) + 8) = false := bne_eq_false_iff_eq.2 (by have := HFL.out; omega)
        go_wp2_with fail
        refine (same_t rfl rfl (Kd.C_drewN R1.out.reads _) C1.out (Kd.C_drewN R3.out.reads _) C3.out (by have := HGP.out; omega)).mono ?_
        rintro e t2 ⟨rfl, n2, rfl⟩
        go_wp2_with fail
        refine (same_t rfl rfl (Kd.C_drewN R2.out.reads _) C2.out (Kd.C_drewN R4.out.reads _) C4.out (by have := HGP.out; have := HFL.out; omega)).mono ?_
        rintro e t3 ⟨rfl, n3, rfl⟩
        have HD := Aside0.mk (pw_below_drewN (Below.refl s6.heap.size s6) (n1 + n2 + n3))
        have HZ := Aside0.mk (show (s6.drewN (n1 + n2 + n3)).heap.size = s6.heap.size by simp)
        have R10 := Aside0.mk (R1.out.next HD.out)
        have R20 := Aside0.mk (R2.out.next HD.out)
        have R30 := Aside0.mk (R3.out.next HD.out)
        have R40 := Aside0.mk (R4.out.next HD.out)
        have HFI := Aside0.mk (HFI.out.next HD.out)
        have HKE := Aside0.mk (HKE.out.next HD.out)
        have HOT := Aside0.mk (HOT.out.next HD.out)
        have HX0 := Aside0.mk (HX.out.next HD.out)
        have HB := Aside0.mk (HB.out.trans (HD.out.mono HB.out.size))
        have HLT := Aside0.mk HXLT.out
        clear R1 R2 R3 R4 HX x6 hne
        go_upto_region 25 with fail
        obtain ⟨y0, hy0⟩ : ∃ y0, y0 = s6.drewN (n1 + n2 + n3) := ⟨_, rfl⟩
        rw [← hy0] at HFI HKE HOT HX0 HB HZ R10 R20 R30 R40 ⊢
        have SZ := Aside0.mk (show w8.heap.size ≤ wr.heap.size ∧ wr.heap.size ≤ s1.heap.size ∧ s1.heap.size ≤ s2.heap.size ∧ s2.heap.size ≤ s3.heap.size ∧ s3.heap.size ≤ s4.heap.size ∧ s4.heap.size ≤ s5.heap.size ∧ s5.heap.size ≤ s6.heap.size ∧ s6.heap.size = y0.heap.size from ⟨HW.out, S1.out, S2.out, S3.out, S4.out, S5.out, S6.out, HZ.out.symm⟩)
        have YC0 := Aside0.mk (Nat.le_refl y0.heap.size)
        have GG0 := HO
        have NN0 := Aside0.mk HB.out.size
        have Z10 := Aside0.mk (show ∀ k, wr.heap.size ≤ k ∧ k < s1.heap.size → own k = 0 from fun k hk => by by_cases h_ : own k = 0; exact h_; (have := HLT.out k h_; omega))
        have Z20 := Aside0.mk (show ∀ k, s2.heap.size ≤ k ∧ k < s3.heap.size → own k = 0 from fun k hk => by by_cases h_ : own k = 0; exact h_; (have := HLT.out k h_; have := SZ.out; omega))
        have Z30 := Aside0.mk (show ∀ k, s3.heap.size ≤ k ∧ k < s4.heap.size → own k = 0 from fun k hk => by by_cases h_ : own k = 0; exact h_; (have := HLT.out k h_; have := SZ.out; omega))
        have Z40 := Aside0.mk (show ∀ k, s5.heap.size ≤ k ∧ k < s6.heap.size → own k = 0 from fun k hk => by by_cases h_ : own k = 0; exact h_; (have := HLT.out k h_; have := SZ.out; omega))
        have LN1 := Aside0.mk (show (outs ps j).length ≤ 1000000 by have := HOL.out; omega)
        have LN2 := Aside0.mk (show (outs ps j ++ [p]).length ≤ 1000000 by rw [List.length_append, HOL.out]; simp; omega)
        have LN3 := Aside0.mk (show (outs ps j ++ [p] ++ [F]).length ≤ 1000000 by rw [List.length_append, List.length_append, HOL.out]; simp; omega)
        have LN4 := Aside0.mk (show (outs ps j ++ [p] ++ [F] ++ [p]).length ≤ 1000000 by rw [List.length_append, List.length_append, List.length_append, HOL.out]; simp; omega)
        clear hy0 HD HO HZ
        go_wp2_with (first | ((refine gate_builtin (b := .append) (xs := #[.tmp 162, .tmp 164]) rfl ?_); at_builtin; refine sr_append rfl (.tmp 162) (.tmp 164) rfl rfl rfl HX0.out R10.out.row Z10.out LN1.out NN0.out ?_; intro vo1 y1 o1 hs hu ho hk; have HX1 := Aside0.mk hs; have NN1 := Aside0.mk (Nat.le_trans NN0.out hu.size); have YS1 := Aside0.mk hu.size; have GG1 := Aside0.mk (show ∀ k, o1 k ≠ 0 → (w3.heap.size ≤ k ∧ k < w5.heap.size) ∨ w8.heap.size ≤ k from fun k hk => (by rcases ho k hk with h_ | h_ | h_; exact GG0.out k h_; (have := SZ.out; right; omega); (have := SZ.out; have := YC0.out; right; omega))); have YC1 := Aside0.mk (show y0.heap.size ≤ y1.heap.size from Nat.le_trans YC0.out hu.size); have R21 := Aside0.mk (R20.out.upd hu (fun k h1 h2 h3 => by have := Z20.out k ⟨h1, h2⟩; omega)); have Z21 := Aside0.mk (show ∀ k, s2.heap.size ≤ k ∧ k < s3.heap.size → o1 k = 0 from fun k hk => (by by_cases h_ : o1 k = 0; exact h_; rcases ho k h_ with h3 | h3 | h3; exact absurd (Z20.out k hk) h3; (have := SZ.out; omega); (have := SZ.out; have := YC0.out; omega))); have R31 := Aside0.mk (R30.out.upd hu (fun k h1 h2 h3 => by have := Z30.out k ⟨h1, h2⟩; omega)); have Z31 := Aside0.mk (show ∀ k, s3.heap.size ≤ k ∧ k < s4.heap.size → o1 k = 0 from fun k hk => (by by_cases h_ : o1 k = 0; exact h_; rcases ho k h_ with h3 | h3 | h3; exact absurd (Z30.out k hk) h3; (have := SZ.out; omega); (have := SZ.out; have := YC0.out; omega))); have R41 := Aside0.mk (R40.out.upd hu (fun k h1 h2 h3 => by have := Z40.out k ⟨h1, h2⟩; omega)); have Z41 := Aside0.mk (show ∀ k, s5.heap.size ≤ k ∧ k < s6.heap.size → o1 k = 0 from fun k hk => (by by_cases h_ : o1 k = 0; exact h_; rcases ho k h_ with h3 | h3 | h3; exact absurd (Z40.out k hk) h3; (have := SZ.out; omega); (have := SZ.out; have := YC0.out; omega))); have HFI := Aside0.mk (HFI.out.upd hu (fun k h1 h2 h3 => by have := GG0.out k (by omega); have := HSS.out; omega)); have HKE := Aside0.mk (HKE.out.upd hu (fun k h1 h2 h3 => by have := GG0.out k (by omega); have := HSS.out; omega)); have HOT := Aside0.mk (HOT.out.upd hu (fun k h1 h2 h3 => by have := GG0.out k (by omega); have := HSS.out; omega)); have HB := Aside0.mk (hu.below HB.out (fun k h_ => by have := GG0.out k (by omega); have := HSS.out; have := HB3.out.size; have := HB8.out.size; omega) HB.out.size); clear hs hu ho hk) | ((refine gate_builtin (b := .append) (xs := #[.tmp 166, .tmp 168]) rfl ?_); at_builtin; refine sr_append rfl (.tmp 166) (.tmp 168) rfl rfl rfl HX1.out R21.out.row Z21.out LN2.out NN1.out ?_; intro vo2 y2 o2 hs hu ho hk; have HX2 := Aside0.mk hs; have NN2 := Aside0.mk (Nat.le_trans NN1.out hu.size); have YS2 := Aside0.mk hu.size; have GG2 := Aside0.mk (show ∀ k, o2 k ≠ 0 → (w3.heap.size ≤ k ∧ k < w5.heap.size) ∨ w8.heap.size ≤ k from fun k hk => (by rcases ho k hk with h_ | h_ | h_; exact GG1.out k h_; (have := SZ.out; right; omega); (have := SZ.out; have := YC1.out; right; omega))); have YC2 := Aside0.mk (show y0.heap.size ≤ y2.heap.size from Nat.le_trans YC1.out hu.size); have R32 := Aside0.mk (R31.out.upd hu (fun k h1 h2 h3 => by have := Z31.out k ⟨h1, h2⟩; omega)); have Z32 := Aside0.mk (show ∀ k, s3.heap.size ≤ k ∧ k < s4.heap.size → o2 k = 0 from fun k hk => (by by_cases h_ : o2 k = 0; exact h_; rcases ho k h_ with h3 | h3 | h3; exact absurd (Z31.out k hk) h3; (have := SZ.out; omega); (have := SZ.out; have := YC1.out; omega))); have R42 := Aside0.mk (R41.out.upd hu (fun k h1 h2 h3 => by have := Z41.out k ⟨h1, h2⟩; omega)); have Z42 := Aside0.mk (show ∀ k, s5.heap.size ≤ k ∧ k < s6.heap.size → o2 k = 0 from fun k hk => (by by_cases h_ : o2 k = 0; exact h_; rcases ho k h_ with h3 | h3 | h3; exact absurd (Z41.out k hk) h3; (have := SZ.out; omega); (have := SZ.out; have := YC1.out; omega))); have HFI := Aside0.mk (HFI.out.upd hu (fun k h1 h2 h3 => by have := GG1.out k (by omega); have := HSS.out; omega)); have HKE := Aside0.mk (HKE.out.upd hu (fun k h1 h2 h3 => by have := GG1.out k (by omega); have := HSS.out; omega)); have HOT := Aside0.mk (HOT.out.upd hu (fun k h1 h2 h3 => by have := GG1.out k (by omega); have := HSS.out; omega)); have HB := Aside0.mk (hu.below HB.out (fun k h_ => by have := GG1.out k (by omega); have := HSS.out; have := HB3.out.size; have := HB8.out.size; omega) HB.out.size); clear hs hu ho hk) | ((refine gate_builtin (b := .append) (xs := #[.tmp 170, .tmp 172]) rfl ?_); at_builtin; refine sr_append rfl (.tmp 170) (.tmp 172) rfl rfl rfl HX2.out R32.out.row Z32.out LN3.out NN2.out ?_; intro vo3 y3 o3 hs hu ho hk; have HX3 := Aside0.mk hs; have NN3 := Aside0.mk (Nat.le_trans NN2.out hu.size); have YS3 := Aside0.mk hu.size; have GG3 := Aside0.mk (show ∀ k, o3 k ≠ 0 → (w3.heap.size ≤ k ∧ k < w5.heap.size) ∨ w8.heap.size ≤ k from fun k hk => (by rcases ho k hk with h_ | h_ | h_; exact GG2.out k h_; (have := SZ.out; right; omega); (have := SZ.out; have := YC2.out; right; omega))); have YC3 := Aside0.mk (show y0.heap.size ≤ y3.heap.size from Nat.le_trans YC2.out hu.size); have R43 := Aside0.mk (R42.out.upd hu (fun k h1 h2 h3 => by have := Z42.out k ⟨h1, h2⟩; omega)); have Z43 := Aside0.mk (show ∀ k, s5.heap.size ≤ k ∧ k < s6.heap.size → o3 k = 0 from fun k hk => (by by_cases h_ : o3 k = 0; exact h_; rcases ho k h_ with h3 | h3 | h3; exact absurd (Z42.out k hk) h3; (have := SZ.out; omega); (have := SZ.out; have := YC2.out; omega))); have HFI := Aside0.mk (HFI.out.upd hu (fun k h1 h2 h3 => by have := GG2.out k (by omega); have := HSS.out; omega)); have HKE := Aside0.mk (HKE.out.upd hu (fun k h1 h2 h3 => by have := GG2.out k (by omega); have := HSS.out; omega)); have HOT := Aside0.mk (HOT.out.upd hu (fun k h1 h2 h3 => by have := GG2.out k (by omega); have := HSS.out; omega)); have HB := Aside0.mk (hu.below HB.out (fun k h_ => by have := GG2.out k (by omega); have := HSS.out; have := HB3.out.size; have := HB8.out.size; omega) HB.out.size); clear hs hu ho hk) | ((refine gate_builtin (b := .append) (xs := #[.tmp 174, .tmp 176]) rfl ?_); at_builtin; refine sr_append rfl (.tmp 174) (.tmp 176) rfl rfl rfl HX3.out R43.out.row Z43.out LN4.out NN3.out ?_; intro vo4 y4 o4 hs hu ho hk; have HX4 := Aside0.mk hs; have NN4 := Aside0.mk (Nat.le_trans NN3.out hu.size); have YS4 := Aside0.mk hu.size; have GG4 := Aside0.mk (show ∀ k, o4 k ≠ 0 → (w3.heap.size ≤ k ∧ k < w5.heap.size) ∨ w8.heap.size ≤ k from fun k hk => (by rcases ho k hk with h_ | h_ | h_; exact GG3.out k h_; (have := SZ.out; right; omega); (have := SZ.out; have := YC3.out; right; omega))); have YC4 := Aside0.mk (show y0.heap.size ≤ y4.heap.size from Nat.le_trans YC3.out hu.size); have HFI := Aside0.mk (HFI.out.upd hu (fun k h1 h2 h3 => by have := GG3.out k (by omega); have := HSS.out; omega)); have HKE := Aside0.mk (HKE.out.upd hu (fun k h1 h2 h3 => by have := GG3.out k (by omega); have := HSS.out; omega)); have HOT := Aside0.mk (HOT.out.upd hu (fun k h1 h2 h3 => by have := GG3.out k (by omega); have := HSS.out; omega)); have HB := Aside0.mk (hu.below HB.out (fun k h_ => by have := GG3.out k (by omega); have := HSS.out; have := HB3.out.size; have := HB8.out.size; omega) HB.out.size); clear hs hu ho hk) | fail)
        go_roundw
        case rel => exact ⟨j + 1, by omega, by go_num, congrArg (Value.int _) (by have := HJT.out; have := HAT2.out; omega), o4, ⟨by rw [HOS.out]; exact HX4.out⟩, HFI, HKE, HOT, HB, GG4, ⟨by have := SZ.out; have := YC4.out; omega⟩⟩
        case measure => simp [intOf]; omega
      · obtain rfl : j = ps.length := by omega
        go_wp2_with fail
        go_meet
        exact ⟨own, HX, HFI, HKE, HOT, HB, HO⟩
  case rest =>
    obtain ⟨own, HX, HFI2, HKE2, HOT2, HB, HO⟩ := hcut
    clear HFI HKE HOT HB10 HOZ HW810 HX10
    have HZO := Aside0.mk (show ∀ k, w6.heap.size ≤ k ∧ k < w7.heap.size → own k = 0 from fun k hk => by by_cases h_ : own k = 0; exact h_; (have := HO.out k h_; have := HSS.out; omega))
    have HLN := Aside0.mk (show (outs ps ps.length).length ≤ 1000000 by rw [outs_len ps _ (Nat.le_refl _)]; omega)
    have HNN := Aside0.mk HB.out.size
    go_upto_region 31 with (first | ((refine gate_builtin (b := .append) (xs := #[.tmp 183, .tmp 185]) rfl ?_); at_builtin; refine sr_append rfl (.tmp 183) (.tmp 185) rfl rfl rfl HX.out HOT2.out.row HZO.out HLN.out HNN.out ?_; intro vo y1 o1 hs hu ho hk; have HX1 := Aside0.mk hs; have HFI := Aside0.mk (HFI2.out.upd hu (fun k h1 h2 h3 => by have := HO.out k (by omega); have := HSS.out; omega)); have HKE := Aside0.mk (HKE2.out.upd hu (fun k h1 h2 h3 => by have := HO.out k (by omega); have := HSS.out; omega)); have HBY := Aside0.mk (hu.below HB.out (fun k h_ => by have := HO.out k (by omega); have := HSS.out; have := HB3.out.size; have := HB8.out.size; omega) HB.out.size); have HGG := Aside0.mk (show ∀ k, o1 k ≠ 0 → w3.heap.size ≤ k from fun k hk => (by rcases ho k hk with h_ | h_ | h_; (have := HO.out k h_; have := HSS.out; omega); (have := HSS.out; omega); (have := HB.out.size; have := HFI2.out.hi; have := HKE2.out.hi; omega))); clear hs hu ho hk) | fail)
    have HBD := Aside0.mk (show ∀ n ∈ (outs ps ps.length ++ [J]).map List.length, n ≤ 70368744177000 from fun n hn => by
      obtain ⟨x, hx, rfl⟩ := List.mem_map.1 hn
      rcases List.mem_append.1 hx with hx | hx
      · obtain ⟨p, hp, h_⟩ := outs_mem ps _ x hx
        have := HSM.out p hp
        rcases h_ with rfl | rfl
        · omega
        · rw [fr_len]; omega
      · obtain rfl := List.mem_singleton.1 hx
        have := HJL.out; omega)
    have HLL := Aside0.mk (show ((outs ps ps.length ++ [J]).map List.length).length ≤ 1000 by rw [List.length_map, List.length_append, outs_len ps _ (Nat.le_refl _)]; simp; omega)
    have HZ1 := Aside0.mk (show ∀ k, y1.heap.size ≤ k → o1 k = 0 from fun k hk => by by_cases h_ : o1 k = 0; exact h_; (have := HX1.out.lt k h_; omega))
    obtain ⟨ns, hns⟩ : ∃ ns, ns = (outs ps ps.length ++ [J]).map List.length := ⟨_, rfl⟩
    have HSK := Aside0.mk (show SK y1 W.heap.size o1 vo ns (fun _ => 0) from by rw [hns]; exact HX1.out.sk)
    have HN2 := Aside0.mk HX1.out.n2
    rw [← hns] at HBD HLL
    clear hns HX HX1 HFI2 HKE2 HOT2
    go_wp2_with fail
    refine (told_calls HSK.out HBY.out.size HLL.out HBD.out HN2.out HZ1.out).mono ?_
    rintro e y2 ⟨o2, rfl, hk2, hu2, ho2⟩
    have HFI := Aside0.mk (HFI.out.upd hu2 (fun k h1 h2 h3 => by have := HGG.out k (by omega); have := HSS.out; omega))
    have HKE := Aside0.mk (HKE.out.upd hu2 (fun k h1 h2 h3 => by have := HGG.out k (by omega); have := HSS.out; omega))
    have HSK := Aside0.mk hk2
    have HB := Aside0.mk (hu2.below HBY.out (fun k h_ => by have := HGG.out k (by omega); have := HB3.out.size; omega) HBY.out.size)
    clear hk2 hu2 ho2 HBY
    go_wp2_with fail
    refine (frame_Scan.calls _ _ _ _ _ _ _ _ HKE.out.reads HCK.out (laid_at HL.out HB.out) HSC.out).mono ?_
    rintro e y3 ⟨v, rfl, hs, hb⟩
    obtain ⟨Bm, bm, rfl, hc, hC⟩ := Kd.S_reads hs
    have HCM := Aside0.mk hC
    have HCMc := Aside0.mk hc
    have HFI := Aside0.mk (HFI.out.next hb)
    have HKE := Aside0.mk (HKE.out.next hb)
    have HSK := Aside0.mk (HSK.out.next hb)
    have HB := Aside0.mk (HB.out.trans (hb.mono HB.out.size))
    clear hs hb hc hC
    go_wp2_with fail
    refine (arrearslaw6_twin.calls _ _ _ _ _ _ (Kd.C_below H0.out HB.out) HC.out HTW.out).mono ?_
    rintro e y4 ⟨v, rfl, hs, hb⟩
    obtain ⟨Bt, bt, rfl, hc, hC⟩ := Kd.S_reads hs
    have HCT := Aside0.mk hC
    have HCTc := Aside0.mk hc
    have HCM := Aside0.mk (Kd.C_below HCM.out hb)
    have HFI := Aside0.mk (HFI.out.next hb)
    have HKE := Aside0.mk (HKE.out.next hb)
    have HSK := Aside0.mk (HSK.out.next hb)
    have HB := Aside0.mk (HB.out.trans (hb.mono HB.out.size))
    clear hs hb hc hC
    go_wp2_with fail
    refine (frame_Join.calls _ _ _ _ _ _ _ HCT.out HCTc.out (laid_at HL.out HB.out) HJN.out).mono ?_
    rintro e y5 ⟨v, rfl, hr, hb⟩
    obtain ⟨Ba, ba, rfl, hc⟩ := rsl hr
    have HCA := Aside0.mk (Kd.R_reads' hr).2.2
    have HCAc := Aside0.mk hc
    have HCM := Aside0.mk (Kd.C_below HCM.out hb)
    have HFI := Aside0.mk (HFI.out.next hb)
    have HKE := Aside0.mk (HKE.out.next hb)
    have HSK := Aside0.mk (HSK.out.next hb)
    have HB := Aside0.mk (HB.out.trans (hb.mono HB.out.size))
    clear hr hb hc
    go_wp2_with fail
    refine (same_t rfl rfl HFI.out.reads HCF.out HKE.out.reads HCK.out (by have := HJL.out; omega)).mono ?_
    rintro e t1 ⟨rfl, n1, rfl⟩
    go_wp2_with fail
    refine (arrearslaw6_alike.calls _ _ _ _ _ _ _ _ _ (Kd.C_drewN HCM.out _) HCMc.out (Kd.C_drewN (Kd.C_below H0.out HB.out) _) HC.out HAL.out).mono ?_
    rintro e t2 ⟨rfl, n2, rfl⟩
    go_wp2_with fail
    refine (same_t rfl rfl (Kd.C_drewN HCA.out _) HCAc.out (Kd.C_drewN HKE.out.reads _) HCK.out (by have := HJL.out; omega)).mono ?_
    rintro e t3 ⟨rfl, n3, rfl⟩
    have HD := Aside0.mk (pw_below_drewN (Below.refl y5.heap.size y5) (n1 + n2 + n3))
    go_wp2_with fail
    refine (still_calls (HSK.out.next HD.out) (fun i n hi => by obtain ⟨h1, h2⟩ := List.getElem?_eq_some_iff.1 hi; simp [h1, h2]) (by have := HLL.out; omega) (fun n hn => by have := HBD.out n hn; omega)).mono ?_
    rintro e t4 ⟨rfl, n4, rfl⟩
    go_wp2_with fail
    go_ret
    exact ⟨rfl, pw_below_drewN HB.out _⟩
end Go.Proofs.YtgfjmpnlkjocaaaDoor.J
