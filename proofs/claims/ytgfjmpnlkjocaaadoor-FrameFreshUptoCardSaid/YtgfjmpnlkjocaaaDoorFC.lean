/- told: the walk. No condition but the shelf's bulk. -/
import Derived.Test.YtgfjmpnlkjocaaaDoorFB
import Derived.Test.YtgfjmpnlkjocaaaDoorJx7
import Derived.Test.YtgfjmpnlkjocaaaDoorJFrameF
import Derived.Test.YtgfjmpnlkjocaaaDoorJFrameR
import Derived.Deep.CutBlock
namespace Go.Proofs.YtgfjmpnlkjocaaaDoor.J
open Go.RowKit Go.Proofs.YtgfjmpnlkjocaaaDoorW.PrintWords Go.Proofs.YtgfjmpnlkjocaaaDoorW.PrintLast Go.Proofs.YtgfjmpnlkjocaaaDoorW.PrintMore
attribute [local go_sem] max2_int min2_int max_two min_two max_three min_three max_four min_four
set_option linter.unusedVariables false
set_option linter.unusedSimpArgs false
set_option maxRecDepth 100000
theorem trail_loop (i : Nat) (hi : i ≤ 1000000) : ∀ (d j k : Nat), j + d = 64 → d < k → arrearslaw6_trail.l0 k (i : Int) (List.replicate j (((i : Int) + 100) % 256)) (j : Int) = some (trl i) := by
  intro d
  induction d with
  | zero =>
    intro j k hj hk
    obtain ⟨k, rfl⟩ : ∃ m, k = m + 1 := ⟨k - 1, by omega⟩
    obtain rfl : j = 64 := by omega
    rw [arrearslaw6_trail.l0, if_neg (by omega)]; rfl
  | succ d ih =>
    intro j k hj hk
    obtain ⟨k, rfl⟩ : ∃ m, k = m + 1 := ⟨k - 1, by omega⟩
    rw [arrearslaw6_trail.l0, if_pos (by omega), if_pos (by simp; omega), show wrap64 ((i : Int) + 100) = (i : Int) + 100 by unfold wrap64; omega, show wrap64 ((j : Int) + 1) = ((j + 1 : Nat) : Int) by unfold wrap64; omega, ← List.replicate_succ']
    exact ih (j + 1) k (by omega) (by omega)
theorem trail_is (i : Nat) (hi : i ≤ 1000000) : arrearslaw6_trail.f 65 (i : Int) = some (trl i) := by
  unfold arrearslaw6_trail.f
  exact trail_loop i hi 64 0 65 (by omega) (by omega)
theorem trl_len (i : Nat) : (trl i).length = 64 := by simp [trl]
/-- Is each of these byte strings full of its own mark? -/
theorem still_in (xs : List (List Int)) (n i : Nat) (hn : xs.length ≤ 1000000) (hi : i < xs.length) (hx : xs[i] = List.replicate n (mkb i)) (hnn : n ≤ 4611686018427387904) (k : Nat) (hk : arrearslaw6_still.l0 k xs (((i + 1 : Nat)) : Int) = some true) : ∀ (d j : Nat), j + d = n → arrearslaw6_still.l1 (d + 1 + k) xs (i : Int) (j : Int) = some true := by
  have hr : rd_L1 xs (i : Int) = List.replicate n (mkb i) := by unfold rd_L1; simp [hi, hx]
  intro d
  induction d with
  | zero =>
    intro j hj
    rw [show 0 + 1 + k = k + 1 by omega, arrearslaw6_still.l1, if_pos (by omega), if_pos (by omega), hr, if_neg (by simp; omega), show wrap64 ((i : Int) + 1) = ((i + 1 : Nat) : Int) by unfold wrap64; omega]
    exact hk
  | succ d ih =>
    intro j hj
    rw [show d + 1 + 1 + k = (d + 1 + k) + 1 by omega, arrearslaw6_still.l1, if_pos (by omega), if_pos (by omega), hr, if_pos (by simp; omega), if_pos (by omega), show rd (List.replicate n (mkb i)) (j : Int) = mkb i by unfold rd; simp [show j < n by omega], if_pos (by rfl), show wrap64 ((j : Int) + 1) = ((j + 1 : Nat) : Int) by unfold wrap64; omega]
    exact ih (j + 1) (by omega)
theorem still_full (ns : List Nat) (hn : ns.length ≤ 1000000) (hb : ∀ n ∈ ns, n ≤ 4611686018427387904) : ∃ k, arrearslaw6_still.f k (full ns) = some true := by
  have main : ∀ d i : Nat, i + d = ns.length → ∃ k, arrearslaw6_still.l0 k (full ns) (i : Int) = some true := by
    intro d
    induction d with
    | zero => intro i hi; exact ⟨1, by rw [arrearslaw6_still.l0, if_neg (by rw [full_len]; omega)]⟩
    | succ d ih =>
      intro i hi
      obtain ⟨k, hk⟩ := ih (i + 1) (by omega)
      have hlt : i < ns.length := by omega
      have hx : (full ns)[i]'(by rw [full_len]; exact hlt) = List.replicate ns[i] (mkb i) := by
        have := full_at ns hlt
        rw [List.getElem?_eq_getElem (by rw [full_len]; exact hlt)] at this
        exact Option.some.inj this
      refine ⟨ns[i] + 1 + k + 1, ?_⟩
      rw [arrearslaw6_still.l0, if_pos (by rw [full_len]; omega)]
      exact still_in (full ns) ns[i] i (by rw [full_len]; exact hn) (by rw [full_len]; exact hlt) hx (hb _ (List.getElem_mem hlt)) k hk ns[i] 0 (by omega)
  exact main ns.length 0 (by omega)
theorem still_calls {w : World} {N : Nat} {own : Nat → Nat} {v : Value} {ns : List Nat} {f : Nat → Nat} (h : SK w N own v ns f) (hf : ∀ (i n : Nat), ns[i]? = some n → f i = n) (hn : ns.length ≤ 1000000) (hb : ∀ n ∈ ns, n ≤ 4611686018427387904) :
    Calls Tryd.prog 33 #[v] w fun e w' => e = .returned (.bool true) ∧ Drawn0 w w' := by
  obtain ⟨A, c, rfl, hc⟩ := h.slice
  obtain ⟨k, hk⟩ := still_full ns hn hb
  have := arrearslaw6_still.calls k A c (full ns) true w (h.reads hf) (by rw [full_len]; exact hc) hk
  rwa [full_len] at this
theorem same_t {w : World} {A B : Option Addr} {c b n1 n2 : Nat} {l : List Int} (h1 : n1 = l.length) (h2 : n2 = l.length) (h : Kd.C By w A l.length l) (hc : l.length ≤ c) (h3 : Kd.C By w B l.length l) (hb : l.length ≤ b) (hl : l.length ≤ 10000000) :
    Calls Tryd.prog 18 #[.slice A n1 c, .slice B n2 b] w fun e w' => e = .returned (.bool true) ∧ ∃ m, w' = w.drewN m := by
  subst h1 h2
  exact (arrearslaw6_same.calls (l.length + 1) A c l B b l true w h hc h3 hb (same_self l hl _ (by omega))).mono fun e w' ⟨he, nd, hd⟩ => ⟨he, nd, hd⟩
set_option maxHeartbeats 4000000 in
theorem told_calls {w : World} {N : Nat} {own : Nat → Nat} {v : Value} {ns : List Nat} (h : SK w N own v ns (fun _ => 0)) (hN : N ≤ w.heap.size) (hl : ns.length ≤ 1000) (hb : ∀ n ∈ ns, n ≤ 70368744177000) (h2 : ∀ k, own k ≠ 2) (h0 : ∀ k, w.heap.size ≤ k → own k = 0) :
    Calls Tryd.prog 32 #[v] w fun e w' => ∃ own', e = .returned (.bool true) ∧ SK w' N own' v ns (fun i => ns.getD i 0) ∧ Upd w w' (fun k => 3 ≤ own k) ∧ (∀ k, k < w.heap.size → own' k = own k) := by
  obtain ⟨A, c, rfl, hc⟩ := h.slice
  have H := Aside0.mk h
  have HN := Aside0.mk hN
  have HL := Aside0.mk hl
  have HB := Aside0.mk hb
  have H2 := Aside0.mk h2
  have HZ := Aside0.mk h0
  have HU := Aside0.mk (Upd.refl w (fun k => 3 ≤ own k))
  have hli : (ns.length : Int) ≤ 1000 := by omega
  clear h hN hl hb h2 h0
  go_enter Tryd.func32, Tryd.ntmps32
  go_upto_block 0 with fail
  go_cut [] (fun wx => Aside0 (SK wx N own (.slice A ns.length c) ns (fun i => ns.getD i 0)) ∧ Aside0 (Upd w wx (fun k => 3 ≤ own k)))
  case first =>
    go_wp2_with fail
    go_loopw [3] (fun i wr => ∃ j : Nat, j ≤ ns.length ∧ i = .int .i64 (j : Int) ∧ Aside0 (SK wr N own (.slice A ns.length c) ns (fun q => if q < j then ns.getD q 0 else 0)) ∧ Aside0 (Upd w wr (fun k => 3 ≤ own k))) (fun i _ => ns.length - (intOf i).toNat)
    case atStart => exact ⟨0, by omega, rfl, ⟨H.out.fn (fun i hi => by simp)⟩, HU⟩
    case round =>
      clear H HU
      obtain ⟨j, hj, rfl, H, HU⟩ := hrel
      by_cases hjn : j < ns.length
      · have hnb : ns[j] ≤ 70368744177000 := HB.out _ (List.getElem_mem hjn)
        obtain ⟨n, hn⟩ : ∃ n, n = ns[j] := ⟨_, rfl⟩
        have HNJ := Aside0.mk hn
        have hnb : n ≤ 70368744177000 := by omega
        clear hn
        go_wp2_with fail
        go_loopw [4] (fun i wr => ∃ m : Nat, m ≤ n ∧ i = .int .i64 (m : Int) ∧ Aside0 (SK wr N own (.slice A ns.length c) ns (fun q => if q = j then m else if q < j then ns.getD q 0 else 0)) ∧ Aside0 (Upd w wr (fun k => 3 ≤ own k))) (fun i _ => n - (intOf i).toNat)
        case atStart => exact ⟨0, by omega, rfl, ⟨H.out.fn (fun i hi => by by_cases h_ : i = j <;> simp [h_])⟩, HU⟩
        case round =>
          clear H HU
          obtain ⟨m, hm, rfl, H, HU⟩ := hrel
          by_cases hmn : m < n
          · obtain ⟨ad, b, g, u, rfl, x0, e1, ho, hNg, x1, hf, hS⟩ := H.out.mark hjn (by rw [if_pos rfl, ← HNJ.out]; exact hmn)
            rw [← HNJ.out] at x0
            simp only [if_pos] at e1 x1 hf hS
            have HS := Aside0.mk hS
            have HO := Aside0.mk ho
            clear hS ho hNg
            have hidx : (j : Int) < (ns.length : Int) := by omega
            go_wp2_with fail
            go_roundw
            case rel => exact ⟨m + 1, by omega, by go_num, ⟨HS.out.fn (fun i hi => by by_cases h_ : i = j <;> simp [h_])⟩, ⟨HU.out.setCell (fun _ => by have := HO.out; dsimp only; omega) _⟩⟩
            case measure => simp [intOf]; omega
          · obtain rfl : m = n := by omega
            obtain ⟨ad, B, b, rfl, x0, hB, _⟩ := H.out.get hjn
            rw [← HNJ.out] at x0 hB
            have hidx : (j : Int) < (ns.length : Int) := by omega
            go_wp2_with fail
            go_roundw
            case rel => exact ⟨j + 1, by omega, by go_num, ⟨H.out.fn (fun i hi => by
              by_cases h_ : i = j
              · subst h_; rw [if_pos rfl, if_pos (by omega), HNJ.out]; simp [hjn]
              · rw [if_neg h_]; by_cases h3 : i < j
                · rw [if_pos h3, if_pos (by omega)]
                · rw [if_neg h3, if_neg (by omega)])⟩, HU⟩
            case measure => simp [intOf]; omega
      · obtain rfl : j = ns.length := by omega
        go_wp2_with fail
        go_meet
        exact ⟨⟨H.out.fn (fun i hi => if_pos hi)⟩, HU⟩
  case rest =>
  obtain ⟨H1, HU1⟩ := hcut
  clear H HU
  go_upto_block 4 with fail
  go_cut [5] (fun vl wx => ∃ (own' : Nat → Nat) (Bl : Option Addr) (bl : Nat), vl = .slice Bl ns.length bl ∧ Aside0 (SK wx N own' (.slice A ns.length c) ns (fun i => ns.getD i 0)) ∧ Aside0 (LR wx N own' (.slice Bl ns.length bl) ns ns.length) ∧ Aside0 (∀ k, k < w.heap.size → own' k = own k) ∧ Aside0 (Upd w wx (fun k => 3 ≤ own k)))
  case first =>
    go_wp2_with fail
    go_loopw [5, 6] (fun vl i wr => ∃ j : Nat, j ≤ ns.length ∧ i = .int .i64 (j : Int) ∧ ∃ (own' : Nat → Nat) (Bl : Option Addr) (bl : Nat), vl = .slice Bl j bl ∧ Aside0 (SK wr N own' (.slice A ns.length c) ns (fun i => ns.getD i 0)) ∧ Aside0 (LR wr N own' (.slice Bl j bl) ns j) ∧ Aside0 (∀ k, k < w.heap.size → own' k = own k) ∧ Aside0 (Upd w wr (fun k => 3 ≤ own k)) ∧ Aside0 (∀ k, own' k ≠ 0 → k < wr.heap.size)) (fun _ i _ => ns.length - (intOf i).toNat)
    case atStart => exact ⟨0, by omega, rfl, own, none, 0, rfl, H1, ⟨LR.nil _ _ _ _⟩, ⟨fun _ _ => rfl⟩, HU1, ⟨fun k hk => by by_cases h_ : k < w.heap.size; (have := HU1.out.size; omega); exact absurd (HZ.out k (by omega)) hk⟩⟩
    case round =>
      clear H1 HU1
      obtain ⟨j, hj, rfl, own', Bl, bl, rfl, H, HLR_, HO, HU, HX⟩ := hrel
      by_cases hjn : j < ns.length
      · have hnb : ns[j] ≤ 70368744177000 := HB.out _ (List.getElem_mem hjn)
        obtain ⟨ad, B, b, rfl, x0, hB, hM, hP⟩ := H.out.get2 hjn
        obtain ⟨lrows, hll, hlR, hlX⟩ := HLR_.out.row
        have HLL := Aside0.mk hll
        have HLR := Aside0.mk hlR
        have HLX := Aside0.mk hlX
        have HTR := Aside0.mk (trail_is j (by omega))
        have HM0 := Aside0.mk (show Mk wr.drew (.slice B ns[j] b) ns[j] N (fun k => own' k = 3 + j) ns[j] (mkb j) from by have h_ := hM.upd' (Upd.of_below (below_drew1 (Below.refl _ _)) (fun _ => False)) (fun _ _ _ h_ => h_); simpa [hjn] using h_)
        have HNJ := Aside0.mk (show ns[j]? = some ns[j] from List.getElem?_eq_getElem hjn)
        obtain ⟨n, hn⟩ : ∃ n, n = ns[j] := ⟨_, rfl⟩
        rw [← hn] at HM0 HNJ x0 hB hnb hP
        have HP := Aside0.mk hP
        clear hP hll hlR hlX
        have hidx : (j : Int) < (ns.length : Int) := by omega
        clear hn hM
        go_upto_region 12 with fail
        refine start_ (n := 11) (S := fun w' => w'.cell? (ad.add j) = some (.slice B n b)) (ds := [7, 8, 9]) #[false, false, false, false, false, false, false, false, false, false, false] (by kernel_rfl) rfl rfl x0 (fun hHeld => ?_)
        refine pure_ (i := 0) (N := (some 37)) (v := ?_) (a' := ?_) #[true, false, false, false, false, false, false, false, false, false, false] rfl rfl (by kernel_rfl) (fun _ _ _ h => h) (Or.inl ⟨by rfl, ?_⟩) ?_ ?_
        rotate_left
        · intro w'
          go_simp
          with_reducible rfl
        rotate_left
        · simp only [Act.put, List.setIfInBounds_toArray, List.set_cons_zero, List.set_cons_succ, i64_w, i32_w]
          rfl
        refine pure_ (i := 1) (N := (some 38)) (v := ?_) (a' := ?_) #[true, true, false, false, false, false, false, false, false, false, false] rfl rfl (by kernel_rfl) (fun _ _ _ h => h) (Or.inl ⟨by rfl, ?_⟩) ?_ ?_
        rotate_left
        · intro w'
          go_simp
          with_reducible rfl
        rotate_left
        · simp only [Act.put, List.setIfInBounds_toArray, List.set_cons_zero, List.set_cons_succ, i64_w, i32_w]
          rfl
        refine pure_ (i := 2) (N := (some 39)) (v := ?_) (a' := ?_) #[true, true, true, false, false, false, false, false, false, false, false] rfl rfl (by kernel_rfl) (fun _ _ _ h => h) (Or.inl ⟨by rfl, ?_⟩) ?_ ?_
        rotate_left
        · intro w'
          go_simp
          with_reducible rfl
        rotate_left
        · simp only [Act.put, List.setIfInBounds_toArray, List.set_cons_zero, List.set_cons_succ, i64_w, i32_w]
          rfl
        refine pure_ (i := 3) (N := (some 40)) (v := ?_) (a' := ?_) #[true, true, true, true, false, false, false, false, false, false, false] rfl rfl (by kernel_rfl) (fun _ _ _ h => h) (Or.inl ⟨by rfl, ?_⟩) ?_ ?_
        rotate_left
        · intro w'
          go_simp
          with_reducible rfl
        rotate_left
        · simp only [Act.put, List.setIfInBounds_toArray, List.set_cons_zero, List.set_cons_succ, i64_w, i32_w]
          rfl
        refine pure_ (i := 5) (N := (some 42)) (v := ?_) (a' := ?_) #[true, true, true, true, false, true, false, false, false, false, false] rfl rfl (by kernel_rfl) (fun _ _ _ h => h) (Or.inl ⟨by rfl, ?_⟩) ?_ ?_
        rotate_left
        · intro w'
          go_simp
          with_reducible rfl
        rotate_left
        · simp only [Act.put, List.setIfInBounds_toArray, List.set_cons_zero, List.set_cons_succ, i64_w, i32_w]
          rfl
        refine take_ (i := 4) (N := (some 41)) (v := ?_) (a' := ?_) #[true, true, true, true, true, true, false, false, false, false, false] rfl rfl (by kernel_rfl) (fun _ _ _ h => h) (Or.inl ⟨by rfl, ?_⟩) hHeld ?_ ?_
        rotate_left
        · rintro w' s0
          go_simp
          with_reducible rfl
        rotate_left
        · simp only [Act.put, List.setIfInBounds_toArray, List.set_cons_zero, List.set_cons_succ, i64_w, i32_w]
          rfl
        refine one_ (i := 6) (N := (some 43)) #[true, true, true, true, true, true, true, false, false, false, false] rfl rfl (by kernel_rfl) (by decide) (fun K hK => ?_)
        refine goes_ Tryd.func45 (by kernel_rfl) rfl #[.int .i64 (j : Int)] (by rfl) rfl rfl (by (try simp only [List.map_toArray, List.map_cons, List.map_nil]); first | done | rfl | (simp only [List.length_drop, List.length_take]; rfl)) ?_
        with_reducible refine (arrearslaw6_trail.calls 65 (j : Int) (trl j) _ HTR.out).mono ?_
        rintro e w6 ⟨v6, rfl, hr6, hb6⟩
        refine ⟨_, rfl, ?_⟩
        obtain ⟨A6, c6, rfl, _⟩ := rsl hr6
        have HT := Aside0.mk hr6
        have HB6 := Aside0.mk hb6
        have HM := Aside0.mk (HM0.out.upd' (Upd.of_below hb6 (fun _ => False)) (fun _ _ _ h_ => h_))
        have hx6 := (hb6.cell (World.block_lt_of_cell? _ _ hHeld)).trans hHeld
        clear hr6 hb6
        refine hK.out _ _ hx6 (fun hHeld => ?_)
        clear hK K
        refine norm_ (a' := ?_) ?_ ?_
        rotate_left
        · show Act.put _ (some 43) _ = _
          simp only [Act.put, List.setIfInBounds_toArray, List.set_cons_zero, List.set_cons_succ, i64_w, i32_w]
          rfl
        refine last_ (i := 7) (N := (some 44)) #[true, true, true, true, true, true, true, true, false, false, false] rfl rfl (by kernel_rfl) (by decide) (fun K hK => ?_)
        refine append_tail_step (o := fun k => own' k = 3 + j) (by rfl) (.tmp 41) (.tmp 43) (by rfl) (by rfl) (by rfl) HM.out HT.out (by omega) (by rw [trl_len]; omega) ?_
        intro A' c' w7 hc7 hF7 hM7 hU7
        rw [trl_len] at hc7 hF7 ⊢
        have HC7 := Aside0.mk hc7
        have HF7 := Aside0.mk hF7
        have HU7 := Aside0.mk hU7
        have HM7 := Aside0.mk hM7
        clear hc7 hF7 hM7 hU7
        refine hK.out _ _ ?_
        clear hK K
        refine norm_ (a' := ?_) ?_ ?_
        rotate_left
        · show Act.put _ (some 44) _ = _
          simp only [Act.put, List.setIfInBounds_toArray, List.set_cons_zero, List.set_cons_succ, i64_w, i32_w]
          rfl
        refine last_ (i := 8) (N := (some 45)) #[true, true, true, true, true, true, true, true, true, false, false] rfl rfl (by kernel_rfl) (by decide) (fun K hK => ?_)
        refine value_ (v := .slice (some ⟨w7.heap.size, 0, none⟩) 1 1) (w1 := w7.alloc (.cells #[.slice A' (n + 64) c'] 23)) (by rfl) rfl (by first | (go_simp; done) | (go_simp; rfl)) ?_
        refine hK.out _ _ ?_
        clear hK K
        refine norm_ (a' := ?_) ?_ ?_
        rotate_left
        · show Act.put _ (some 45) _ = _
          simp only [Act.put, List.setIfInBounds_toArray, List.set_cons_zero, List.set_cons_succ, i64_w, i32_w]
          rfl
        refine last_ (i := 9) (N := (some 46)) #[true, true, true, true, true, true, true, true, true, true, false] rfl rfl (by kernel_rfl) (by decide) (fun K hK => ?_)
        refine Kd.R_append_step (Kd.raw 1) (w0 := w7) N (by rfl) (.tmp 37) (.tmp 45) 30 23 (.slice none 0 0) 24 rfl Tryd.underlying30 info23 rfl (by decide) (by decide) (.slice Bl j bl) lrows [.slice A' (n + 64) c'] [.slice A' (n + 64) c'] (fun k => own' k = 2 ∨ w7.heap.size ≤ k) (fun _ => False) (by rfl) (by rfl) ⟨rfl, rfl, fun u hu => by simp at hu; subst hu; rfl⟩ (fun _ hk => hk.elim) (fun _ hk => .inr hk) (Kd.R_mono (Kd.R_step (Kd.R_below HLR.out (below_drew1_ HB6.out)) (fun k hk hlt => HU7.out.block k hlt (by have hk : own' k = 2 := hk; omega))) (fun k hk => .inl hk)) (Below.refl _ _) (by have := HU7.out.size; have := (below_drew1_ HB6.out).size; have := HU.out.size; have := HN.out; omega) (by rw [HLL.out]; omega) ?_
        intro v9 w9 hr9 hb9 hg9 hat9
        have HR9 := Aside0.mk hr9
        have HG9 := Aside0.mk hg9
        obtain ⟨A9, c9, rfl, hc9⟩ := rsl hr9
        have HC9 := Aside0.mk (show (lrows ++ [([.slice A' (n + 64) c'] : List Value)]).length = j + 1 by rw [List.length_append, HLL.out]; rfl)
        rw [HC9.out] at HR9 ⊢
        clear hr9 hb9 hg9 hat9 hc9
        refine hK.out _ _ ?_
        clear hK K
        refine norm_ (a' := ?_) ?_ ?_
        rotate_left
        · show Act.put _ (some 46) _ = _
          simp only [Act.put, List.setIfInBounds_toArray, List.set_cons_zero, List.set_cons_succ, i64_w, i32_w]
          rfl
        refine pure_ (i := 10) (N := (some 5)) (v := ?_) (a' := ?_) #[true, true, true, true, true, true, true, true, true, true, true] rfl rfl (by kernel_rfl) (fun _ _ _ h => h) (Or.inl ⟨by rfl, ?_⟩) ?_ ?_
        rotate_left
        · intro w'
          go_simp
          with_reducible rfl
        rotate_left
        · simp only [Act.put, List.setIfInBounds_toArray, List.set_cons_zero, List.set_cons_succ, i64_w, i32_w]
          rfl
        refine done_ (by kernel_rfl) ?_
        go_wp2_with fail
        obtain ⟨o2, q1, q2, q3, q4, q5⟩ := told_round (fun h_ => HP.out _ _ ((Upd.of_below (below_drew1_ HB6.out) _).then_ h_ (fun _ _ h_ => h_)) HM7.out) (below_drew1_ HB6.out) HU7.out HG9.out HLL.out HLR.out HLX.out HC7.out HF7.out HR9.out HNJ.out HX.out HO.out HU.out H2.out
        go_roundw
        case rel => exact ⟨j + 1, by omega, by go_num, o2, A9, c9, rfl, ⟨q1.fn (fun i hi => by by_cases h_ : i = j <;> simp [h_, HNJ.out])⟩, ⟨q2⟩, ⟨q3⟩, ⟨q4⟩, ⟨q5⟩⟩
        case measure => simp [intOf]; omega
      · obtain rfl : j = ns.length := by omega
        go_wp2_with fail
        go_meet
        exact ⟨own', Bl, bl, rfl, H, HLR_, HO, HU⟩
  case rest =>
  obtain ⟨own', Bl, bl, rfl, H, HLR_, HO, HU⟩ := hcut
  clear H1 HU1
  go_wp2_with fail
  go_loopw [7] (fun i wr => ∃ j : Nat, j ≤ ns.length ∧ i = .int .i64 (j : Int) ∧ Aside0 (SK wr N own' (.slice A ns.length c) ns (fun i => ns.getD i 0)) ∧ Aside0 (LR wr N own' (.slice Bl ns.length bl) ns ns.length) ∧ Aside0 (Upd w wr (fun k => 3 ≤ own k))) (fun i _ => ns.length - (intOf i).toNat)
  case atStart => exact ⟨0, by omega, rfl, H, HLR_, HU⟩
  case round =>
    clear H HLR_ HU
    obtain ⟨j, hj, rfl, H, HLR_, HU⟩ := hrel
    by_cases hjn : j < ns.length
    · have hnb : ns[j] ≤ 70368744177000 := HB.out _ (List.getElem_mem hjn)
      obtain ⟨ad, B, b, rfl, x0, hB, _⟩ := H.out.get hjn
      obtain ⟨ad2, B2, b2, rfl, x1, hB2, hC2⟩ := HLR_.out.get hjn hjn
      have HTR := Aside0.mk (trail_is j (by omega))
      obtain ⟨n, hn⟩ : ∃ n, n = ns[j] := ⟨_, rfl⟩
      rw [← hn] at x0 x1 hB hB2 hC2 hnb
      have hL_ : (List.replicate n (mkb j) ++ trl j).length = n + 64 := by rw [List.length_append, List.length_replicate, trl_len]
      rw [← hL_] at hC2
      have hC8 := Kd.C_drop (m := n) (c := b2) hC2 (by rw [hL_]; omega) (by rw [hL_]; exact hB2)
      have hl8 : (List.replicate n (mkb j) ++ trl j).drop n = trl j := by rw [List.drop_left' (by simp)]
      rw [hl8] at hC8
      obtain ⟨A8, hA8⟩ : ∃ A8, A8 = (if b2 = n then B2 else B2.map (·.add (n * 1))) := ⟨_, rfl⟩
      obtain ⟨i0_, hi0_, _, hsz, _⟩ := info_parts info5
      have hcut2 := cut_from (P := Tryd.prog) 23 5 .i64 Tryd.underlying23 hi0_ 1 hsz B2 (n + 64) b2 (n : Int) (by omega) (by omega)
      rw [Int.toNat_natCast, ← hA8, show n + 64 - n = (trl j).length by rw [trl_len]; omega] at hcut2
      have HC8 := Aside0.mk (show Kd.C By wr A8 (trl j).length (trl j) from hA8 ▸ hC8)
      have HL8 := Aside0.mk (show (trl j).length ≤ b2 - n by rw [trl_len]; omega)
      have hidx : (j : Int) < (ns.length : Int) := by omega
      clear hn hC2 hC8 hl8 hA8 hi0_ hsz
      go_upto_region 16 with fail
      refine start_ (n := 14) (S := fun w' => w'.cell? (ad2.add j) = some (.slice B2 (n + 64) b2) ∧ w'.cell? (ad.add j) = some (.slice B n b)) (ds := [12]) #[false, false, false, false, false, false, false, false, false, false, false, false, false, false] (by kernel_rfl) rfl rfl ⟨x1, x0⟩ (fun hHeld => ?_)
      refine pure_ (i := 0) (N := (some 53)) (v := ?_) (a' := ?_) #[true, false, false, false, false, false, false, false, false, false, false, false, false, false] rfl rfl (by kernel_rfl) (fun _ _ _ h => h) (Or.inl ⟨by rfl, ?_⟩) ?_ ?_
      rotate_left
      · intro w'
        go_simp
        with_reducible rfl
      rotate_left
      · simp only [Act.put, List.setIfInBounds_toArray, List.set_cons_zero, List.set_cons_succ, i64_w, i32_w]
        rfl
      refine pure_ (i := 1) (N := (some 54)) (v := ?_) (a' := ?_) #[true, true, false, false, false, false, false, false, false, false, false, false, false, false] rfl rfl (by kernel_rfl) (fun _ _ _ h => h) (Or.inl ⟨by rfl, ?_⟩) ?_ ?_
      rotate_left
      · intro w'
        go_simp
        with_reducible rfl
      rotate_left
      · simp only [Act.put, List.setIfInBounds_toArray, List.set_cons_zero, List.set_cons_succ, i64_w, i32_w]
        rfl
      refine pure_ (i := 2) (N := (some 55)) (v := ?_) (a' := ?_) #[true, true, true, false, false, false, false, false, false, false, false, false, false, false] rfl rfl (by kernel_rfl) (fun _ _ _ h => h) (Or.inl ⟨by rfl, ?_⟩) ?_ ?_
      rotate_left
      · intro w'
        go_simp
        with_reducible rfl
      rotate_left
      · simp only [Act.put, List.setIfInBounds_toArray, List.set_cons_zero, List.set_cons_succ, i64_w, i32_w]
        rfl
      refine pure_ (i := 4) (N := (some 57)) (v := ?_) (a' := ?_) #[true, true, true, false, true, false, false, false, false, false, false, false, false, false] rfl rfl (by kernel_rfl) (fun _ _ _ h => h) (Or.inl ⟨by rfl, ?_⟩) ?_ ?_
      rotate_left
      · intro w'
        go_simp
        with_reducible rfl
      rotate_left
      · simp only [Act.put, List.setIfInBounds_toArray, List.set_cons_zero, List.set_cons_succ, i64_w, i32_w]
        rfl
      refine pure_ (i := 5) (N := (some 58)) (v := ?_) (a' := ?_) #[true, true, true, false, true, true, false, false, false, false, false, false, false, false] rfl rfl (by kernel_rfl) (fun _ _ _ h => h) (Or.inl ⟨by rfl, ?_⟩) ?_ ?_
      rotate_left
      · intro w'
        go_simp
        with_reducible rfl
      rotate_left
      · simp only [Act.put, List.setIfInBounds_toArray, List.set_cons_zero, List.set_cons_succ, i64_w, i32_w]
        rfl
      refine pure_ (i := 6) (N := (some 59)) (v := ?_) (a' := ?_) #[true, true, true, false, true, true, true, false, false, false, false, false, false, false] rfl rfl (by kernel_rfl) (fun _ _ _ h => h) (Or.inl ⟨by rfl, ?_⟩) ?_ ?_
      rotate_left
      · intro w'
        go_simp
        with_reducible rfl
      rotate_left
      · simp only [Act.put, List.setIfInBounds_toArray, List.set_cons_zero, List.set_cons_succ, i64_w, i32_w]
        rfl
      refine pure_ (i := 10) (N := (some 63)) (v := ?_) (a' := ?_) #[true, true, true, false, true, true, true, false, false, false, true, false, false, false] rfl rfl (by kernel_rfl) (fun _ _ _ h => h) (Or.inl ⟨by rfl, ?_⟩) ?_ ?_
      rotate_left
      · intro w'
        go_simp
        with_reducible rfl
      rotate_left
      · simp only [Act.put, List.setIfInBounds_toArray, List.set_cons_zero, List.set_cons_succ, i64_w, i32_w]
        rfl
      refine take_ (i := 3) (N := (some 56)) (v := ?_) (a' := ?_) #[true, true, true, true, true, true, true, false, false, false, true, false, false, false] rfl rfl (by kernel_rfl) (fun _ _ _ h => h) (Or.inl ⟨by rfl, ?_⟩) hHeld ?_ ?_
      rotate_left
      · rintro w' ⟨s0, s1⟩
        go_simp
        with_reducible rfl
      rotate_left
      · simp only [Act.put, List.setIfInBounds_toArray, List.set_cons_zero, List.set_cons_succ, i64_w, i32_w]
        rfl
      refine take_ (i := 7) (N := (some 60)) (v := ?_) (a' := ?_) #[true, true, true, true, true, true, true, true, false, false, true, false, false, false] rfl rfl (by kernel_rfl) (fun _ _ _ h => h) (Or.inl ⟨by rfl, ?_⟩) hHeld ?_ ?_
      rotate_left
      · rintro w' ⟨s0, s1⟩
        go_simp
        with_reducible rfl
      rotate_left
      · simp only [Act.put, List.setIfInBounds_toArray, List.set_cons_zero, List.set_cons_succ, i64_w, i32_w]
        rfl
      refine pure_ (i := 8) (N := (some 61)) (v := ?_) (a' := ?_) #[true, true, true, true, true, true, true, true, true, false, true, false, false, false] rfl rfl (by kernel_rfl) (fun _ _ _ h => h) (Or.inl ⟨by rfl, ?_⟩) ?_ ?_
      rotate_left
      · intro w'
        go_simp
        with_reducible rfl
      rotate_left
      · simp only [Act.put, List.setIfInBounds_toArray, List.set_cons_zero, List.set_cons_succ, i64_w, i32_w]
        rfl
      refine pure_ (i := 9) (N := (some 62)) (v := ?_) (a' := ?_) #[true, true, true, true, true, true, true, true, true, true, true, false, false, false] rfl rfl (by kernel_rfl) (fun _ _ _ h => h) (Or.inl ⟨by rfl, ?_⟩) ?_ ?_
      rotate_left
      · intro w'
        go_simp
        with_reducible rfl
      rotate_left
      · simp only [Act.put, List.setIfInBounds_toArray, List.set_cons_zero, List.set_cons_succ, i64_w, i32_w]
        rfl
      refine one_ (i := 11) (N := (some 64)) #[true, true, true, true, true, true, true, true, true, true, true, true, false, false] rfl rfl (by kernel_rfl) (by decide) (fun K hK => ?_)
      refine goes_ Tryd.func45 (by kernel_rfl) rfl #[.int .i64 (j : Int)] (by rfl) rfl rfl (by (try simp only [List.map_toArray, List.map_cons, List.map_nil]); first | done | rfl | (simp only [List.length_drop, List.length_take]; rfl)) ?_
      with_reducible refine (arrearslaw6_trail.calls 65 (j : Int) (trl j) _ HTR.out).mono ?_
      rintro e w6 ⟨v6, rfl, hr6, hb6⟩
      refine ⟨_, rfl, ?_⟩
      obtain ⟨A6, c6, rfl, hc6⟩ := rsl hr6
      have HT := Aside0.mk (Kd.R_reads' hr6).2.2
      have HC6 := Aside0.mk hc6
      have HB6 := Aside0.mk hb6
      have hx6 := (hb6.cell (World.block_lt_of_cell? _ _ hHeld.1)).trans hHeld.1
      have hx7 := (hb6.cell (World.block_lt_of_cell? _ _ hHeld.2)).trans hHeld.2
      clear hr6 hb6 hc6
      refine hK.out _ _ ⟨hx6, hx7⟩ (fun hHeld => ?_)
      clear hK K
      refine norm_ (a' := ?_) ?_ ?_
      rotate_left
      · show Act.put _ (some 64) _ = _
        simp only [Act.put, List.setIfInBounds_toArray, List.set_cons_zero, List.set_cons_succ, i64_w, i32_w]
        rfl
      refine last_ (i := 12) (N := (some 65)) #[true, true, true, true, true, true, true, true, true, true, true, true, true, false] rfl rfl (by kernel_rfl) (by decide) (fun K hK => ?_)
      refine goes_ Tryd.func18 (by kernel_rfl) rfl #[.slice A8 (trl j).length (b2 - n), .slice A6 (trl j).length c6] (by rfl) rfl rfl (by (try simp only [List.map_toArray, List.map_cons, List.map_nil]); first | done | rfl | (simp only [List.length_drop, List.length_take]; rfl)) ?_
      with_reducible refine (same_t rfl rfl (Kd.C_below HC8.out (below_drew1_ HB6.out)) HL8.out HT.out HC6.out (by rw [trl_len]; omega)).mono ?_
      rintro e w7 ⟨rfl, nd, rfl⟩
      refine ⟨_, rfl, ?_⟩
      have HD7 := Aside0.mk (pw_below_drewN (Below.refl w6.heap.size w6) nd)
      refine hK.out _ _ ?_
      clear hK K
      refine norm_ (a' := ?_) ?_ ?_
      rotate_left
      · show Act.put _ (some 65) _ = _
        simp only [Act.put, List.setIfInBounds_toArray, List.set_cons_zero, List.set_cons_succ, i64_w, i32_w]
        rfl
      refine pure_ (i := 13) (N := (some 66)) (v := ?_) (a' := ?_) #[true, true, true, true, true, true, true, true, true, true, true, true, true, true] rfl rfl (by kernel_rfl) (fun _ _ _ h => h) (Or.inl ⟨by rfl, ?_⟩) ?_ ?_
      rotate_left
      · intro w'
        go_simp
        with_reducible rfl
      rotate_left
      · simp only [Act.put, List.setIfInBounds_toArray, List.set_cons_zero, List.set_cons_succ, i64_w, i32_w]
        rfl
      refine done_ (by kernel_rfl) ?_
      have HB7 := Aside0.mk ((below_drew1_ HB6.out).trans (HD7.out.mono (below_drew1_ HB6.out).size))
      go_wp2_with fail
      go_roundw
      case rel => exact ⟨j + 1, by omega, by go_num, ⟨H.out.next HB7.out⟩, ⟨HLR_.out.next HB7.out⟩, ⟨HU.out.then_ (Upd.of_below HB7.out (fun k => 3 ≤ own k)) (fun _ _ h_ => h_)⟩⟩
      case measure => simp [intOf]; omega
    · obtain rfl : j = ns.length := by omega
      go_wp2_with fail
      refine (still_calls H.out (fun i n hi => by obtain ⟨h1, h2⟩ := List.getElem?_eq_some_iff.1 hi; simp [h1, h2]) (by omega) (fun n hn => by have := HB.out n hn; omega)).mono ?_
      rintro e wz ⟨rfl, nd, rfl⟩
      have HD := Aside0.mk (pw_below_drewN (Below.refl wr.heap.size wr) nd)
      go_wp2_with fail
      go_ret
      exact ⟨own', rfl, H.out.next HD.out, HU.out.then_ (Upd.of_below HD.out (fun k => 3 ≤ own k)) (fun _ _ h_ => h_), HO.out⟩
end Go.Proofs.YtgfjmpnlkjocaaaDoor.J
