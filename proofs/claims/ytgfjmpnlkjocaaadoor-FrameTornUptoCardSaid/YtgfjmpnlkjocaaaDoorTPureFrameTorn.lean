/- FrameTorn: wherever a file of frames is cut off, just the frames that lie wholly ahead of the cut are told. No condition but the bytes' range and lengths up to a bound. -/
import Derived.Test.YtgfjmpnlkjocaaaDoorTFrameG
import Derived.Test.YtgfjmpnlkjocaaaDoorTx5
namespace Go.Proofs.YtgfjmpnlkjocaaaDoor.T
open Go.RowKit Go.Proofs.YtgfjmpnlkjocaaaDoorW.PrintWords Go.Proofs.YtgfjmpnlkjocaaaDoorW.PrintLast Go.Proofs.YtgfjmpnlkjocaaaDoorW.PrintMore
set_option linter.unusedVariables false
set_option linter.unusedSimpArgs false

/-- A piece of one frame is none. -/
theorem spec_part (p : List Int) (h : Good p) (c : Nat) (hc : c < p.length + 8) : spec ((fr p).take c) 0 = (false, 0, if c = 0 then 0 else 1) := by
  obtain ⟨hb, hl⟩ := h
  have hlen : ((fr p).take c).length = c := by rw [List.length_take, fr_len]; omega
  unfold spec
  rw [List.drop_zero, hlen]
  by_cases c0 : c = 0
  · rw [if_pos c0, if_pos c0]
  rw [if_neg c0, if_neg c0]
  by_cases c1 : c < 4
  · rw [if_pos c1]
  rw [if_neg c1]
  have hw : wd ((fr p).take c) = p.length := by
    have e : (fr p).take c = b4 p.length ++ (p ++ b4 (sm (b4 p.length ++ p))).take (c - 4) := by
      unfold fr
      rw [List.append_assoc, List.take_append, b4_len, List.take_of_length_le (by rw [b4_len]; omega)]
    rw [e, wd_b4 _ (by omega) (by omega)]
  rw [hw, if_neg (by omega), if_pos (by omega)]
theorem g_part (z : List Int) (hz : Bytes z) (t : Int) (h : spec z 0 = (false, 0, t)) (k : Nat) : frame_Scan.g (k + 1) z 0 = some ([], 0, t) := by
  rw [g_succ, nx_is z hz 0 (by omega), h, Option.bind_some]
  rfl
/-- What a scan tells of a file of frames that is cut off. -/
theorem scan_cut (ps : List (List Int)) (hg : ∀ p ∈ ps, Good p) (hj : (jn ps).length ≤ 100000000) (i c : Nat) (hi : i ≤ ps.length) (h0 : (jn (ps.take i)).length ≤ c) (h1 : c ≤ (jn ps).length) (h2 : ∀ h : i < ps.length, c < (jn (ps.take i)).length + (ps[i].length + 8)) (k : Nat) (hk : ps.length + 1 < k) :
    frame_Scan.f k ((jn ps).take c) = some (ps.take i, ((jn (ps.take i)).length : Int), if (jn (ps.take i)).length = c then 0 else 1) := by
  have hgi : ∀ p ∈ ps.take i, Good p := fun p hp => hg p (List.mem_of_mem_take hp)
  have hlen : (ps.take i).length ≤ ps.length := by rw [List.length_take]; omega
  have split : jn ps = jn (ps.take i) ++ jn (ps.drop i) := by rw [← jn_append, List.take_append_drop]
  have hcl : ((jn ps).take c).length ≤ 1000000000 := by rw [List.length_take]; omega
  rcases Nat.lt_or_ge i ps.length with hlt | hge
  · have hp := hg ps[i] (List.getElem_mem _)
    have e : (jn ps).take c = jn (ps.take i) ++ (fr ps[i]).take (c - (jn (ps.take i)).length) := by
      rw [split, List.take_append, List.take_of_length_le h0, List.drop_eq_getElem_cons hlt, jn_cons, List.take_append, show c - (jn (ps.take i)).length - (fr ps[i]).length = 0 from by rw [fr_len]; have := h2 hlt; omega, List.take_zero, List.append_nil]
    have hz : Bytes ((fr ps[i]).take (c - (jn (ps.take i)).length)) := (fr_bytes hp.1).take _
    have h3 := g_jn _ hz 1 (ps.take i) hgi
    rw [g_part _ hz _ (spec_part ps[i] hp _ (by have := h2 hlt; omega)) 0, Option.map_some, List.append_nil, Int.add_zero, ← e] at h3
    have h4 := scan_of_g hcl h3 (show 1 + (ps.take i).length ≤ k by omega)
    rw [h4]
    simp only [Option.some.injEq, Prod.mk.injEq, true_and]
    by_cases c0 : (jn (ps.take i)).length = c
    · rw [if_pos c0, if_pos (by omega)]
    · rw [if_neg c0, if_neg (by omega)]
  · have ei : ps.take i = ps := List.take_of_length_le hge
    rw [ei] at h0 ⊢
    have ec : (jn ps).length = c := by omega
    rw [List.take_of_length_le (by omega), if_pos ec]
    exact scan_jn ps hg (by omega) k (by omega)
/-- The law's own count of the frames ahead of the cut. -/
theorem torn_loop (ps : List (List Int)) (hg : ∀ p ∈ ps, Good p) (hl : ps.length ≤ 10000000) (hj : (jn ps).length ≤ 100000000) (c : Nat) (hc : c ≤ (jn ps).length) (l : List (List Int)) (e t : Int) (K : Nat) (hK : ps.length + 4194400 < K)
    (hs : ∀ i, i ≤ ps.length → (jn (ps.take i)).length ≤ c → (∀ h : i < ps.length, c < (jn (ps.take i)).length + (ps[i].length + 8)) → l = ps.take i ∧ e = ((jn (ps.take i)).length : Int) ∧ t = if (jn (ps.take i)).length = c then 0 else 1) (d : Nat) :
    ∀ (k i : Nat), i + d = ps.length → d + K + 1 < k → (jn (ps.take i)).length ≤ c → arrearslaw6_FrameTorn.l0 k ps (c : Int) l e t ((jn (ps.take i)).length : Int) (i : Int) = some true := by
  have fin : ∀ (k i : Nat), i ≤ ps.length → K < k → (jn (ps.take i)).length ≤ c → (∀ h : i < ps.length, c < (jn (ps.take i)).length + (ps[i].length + 8)) → arrearslaw6_FrameTorn.j4 k ps (c : Int) l e t ((jn (ps.take i)).length : Int) (i : Int) = some true := by
    intro k i hi hk h0 h2
    obtain ⟨k, rfl⟩ : ∃ m, k = m + 1 + 1 := ⟨k - 2, by omega⟩
    obtain ⟨e1, e2, e3⟩ := hs i hi h0 h2
    rw [arrearslaw6_FrameTorn.j4, if_pos (by omega), if_pos (by omega), e1, Int.toNat_natCast, alike_self (ps.take i) (fun p hp => (hg p (List.mem_of_mem_take hp)).2) (by rw [List.length_take]; omega) _ (by rw [List.length_take]; omega), Option.bind_some, if_pos rfl, e2,
      show (((jn (ps.take i)).length : Int) != ((jn (ps.take i)).length : Int)) = false from bne_eq_false_iff_eq.2 rfl, arrearslaw6_FrameTorn.j5, if_neg (by simp), e3]
    by_cases c0 : (jn (ps.take i)).length = c
    · rw [if_pos (by omega), if_pos c0]; rfl
    · rw [if_neg (by omega), if_neg c0]; rfl
  induction d with
  | zero =>
    intro k i hi hk h0
    obtain ⟨k, rfl⟩ : ∃ m, k = m + 1 := ⟨k - 1, by omega⟩
    simp only [arrearslaw6_FrameTorn.l0]
    rw [if_neg (by omega)]
    exact fin k i (by omega) (by omega) h0 (fun h => by omega)
  | succ d ih =>
    intro k i hi hk h0
    obtain ⟨k, rfl⟩ : ∃ m, k = m + 1 := ⟨k - 1, by omega⟩
    have e5 := jn_take ps i (by omega)
    have e2 : (jn (ps.take (i + 1))).length = (jn (ps.take i)).length + (ps[i].length + 8) := by rw [e5, List.length_append, fr_len]
    have h1 := jn_take_le ps (i + 1)
    simp only [arrearslaw6_FrameTorn.l0]
    rw [if_pos (by omega), if_pos (by omega), rdL_at ps i (by omega), pl_w64 (x := ((jn (ps.take i)).length : Int) + (ps[i].length : Int)) (by omega) (by omega), pl_w64 (x := _ + 8) (by omega) (by omega),
      show (((jn (ps.take i)).length : Int) + (ps[i].length : Int) + 8) = ((jn (ps.take (i + 1))).length : Int) from by omega]
    by_cases c0 : ((jn (ps.take (i + 1))).length : Int) ≤ (c : Int)
    · rw [if_pos c0, show wrap64 ((i : Int) + 1) = ((i + 1 : Nat) : Int) from by rw [pl_w64 (by omega) (by omega)]; omega]
      exact ih k (i + 1) (by omega) (by omega) (by omega)
    · rw [if_neg c0]
      exact fin k i (by omega) (by omega) h0 (fun h => by omega)
def FrameTorn_Pure : Prop := ∀ (l0 : List (List Int)) (a1 : Int), ((∀ x_ ∈ l0, (∀ x__ ∈ x_, (Lit.int .u8 x__).wf = true) ∧ x_.length * 1 ≤ 140737488351232 ∧ x_.length ≤ 1048576) ∧ l0.length * 24 ≤ 140737488351232 ∧ l0.length ≤ 1048576) → ((Lit.int .i64 a1).wf = true) → ∃ k, arrearslaw6_FrameTorn.f k l0 a1 = some true
theorem FrameTorn_pure : FrameTorn_Pure := by
  intro ps a1 h0 _
  have hbp : ∀ p ∈ ps, Bytes p := fun p hp x hx => by simpa [Lit.wf, IntKind.min, IntKind.max, IntKind.bits, IntKind.signed] using (h0.1 p hp).1 x hx
  have hpl : ps.length ≤ 1048576 := h0.2.2
  refine ⟨50000000 + 1 + 1 + 1, ?_⟩
  generalize hk : 50000000 = k
  unfold arrearslaw6_FrameTorn.f
  rcases fits_is ps hpl (fun p hp => (h0.1 p hp).2.2) (k + 1 + 1 + 1) (by omega) with hf | ⟨hf, hsm, hj⟩
  · rw [hf, Option.bind_some, if_neg (by simp)]
  have hg : ∀ p ∈ ps, Good p := fun p hp => ⟨hbp p hp, hsm p hp⟩
  have hj8 := jn_len ps
  rw [hf, Option.bind_some, if_pos rfl, twin_is ps (by omega) hsm _ (by omega), Option.bind_some, join_is ps (by omega) hg (by omega) _ (by omega), Option.bind_some, if_pos rfl,
    size_is ps (by omega) (by omega) _ (by omega), Option.bind_some, show ((((jn ps, true) : List Int × Bool).1.length : Int) != ((jn ps).length : Int)) = false from bne_eq_false_iff_eq.2 rfl]
  show arrearslaw6_FrameTorn.j0 (k + 1 + 1 + 1) ps a1 (jn ps) false = some true
  have main : ∀ c : Nat, c ≤ (jn ps).length → arrearslaw6_FrameTorn.j2 (k + 1) ps (c : Int) (jn ps) = some true := by
    intro c hc
    rw [arrearslaw6_FrameTorn.j2, if_pos (by omega), if_pos (by omega), Int.toNat_natCast]
    obtain ⟨r1, r2, r3, e1, _⟩ := scan_some ((jn ps).take c) ((jn_bytes ps hg).take _) (by rw [List.length_take]; omega) k (by rw [List.length_take]; omega)
    rw [e1, Option.bind_some]
    have h := torn_loop ps hg (by omega) (by omega) c hc r1 r2 r3 20000000 (by omega) (fun i hi h3 h4 => by
      have h5 := scan_cut ps hg (by omega) i c hi h3 hc h4 k (by omega)
      rw [e1] at h5
      simpa using h5) ps.length k 0 (by omega) (by omega) (by simp [jn])
    simpa [jn] using h
  have j1 : ∀ b : Bool, (b = true ∨ (0 ≤ a1 ∧ a1 ≤ ((jn ps).length : Int))) → arrearslaw6_FrameTorn.j1 (k + 1 + 1) ps a1 (jn ps) b = some true := by
    intro b hb
    rw [arrearslaw6_FrameTorn.j1]
    cases b with
    | true => rw [if_pos rfl]; exact main _ (Nat.le_refl _)
    | false =>
      rw [if_neg (by simp)]
      obtain ⟨h1, h2⟩ := hb.resolve_left (by simp)
      obtain ⟨c, rfl⟩ := Int.eq_ofNat_of_zero_le h1
      exact main c (by omega)
  rw [arrearslaw6_FrameTorn.j0, if_neg (by simp)]
  by_cases c1 : a1 < 0
  · rw [if_pos c1]; exact j1 true (.inl rfl)
  · rw [if_neg c1]
    by_cases c2 : a1 > ((jn ps).length : Int)
    · rw [decide_eq_true c2]; exact j1 true (.inl rfl)
    · rw [decide_eq_false c2]; exact j1 false (.inr ⟨by omega, by omega⟩)
end Go.Proofs.YtgfjmpnlkjocaaaDoor.T
