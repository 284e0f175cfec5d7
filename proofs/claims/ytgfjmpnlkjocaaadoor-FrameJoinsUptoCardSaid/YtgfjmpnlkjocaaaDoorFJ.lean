/- Encode and Join: what the program and the document's answer make of any payloads is the same, the refusal too. No condition but the bytes' range and bulk. -/
import Derived.Test.YtgfjmpnlkjocaaaDoorJFrameG
import Derived.Test.YtgfjmpnlkjocaaaDoorJFrameCD
import Derived.Test.YtgfjmpnlkjocaaaDoorJFrameLD
import Derived.Test.YtgfjmpnlkjocaaaDoorJx7
namespace Go.Proofs.YtgfjmpnlkjocaaaDoor.J
open Go.RowKit Go.Proofs.YtgfjmpnlkjocaaaDoorW.PrintWords Go.Proofs.YtgfjmpnlkjocaaaDoorW.PrintLast Go.Proofs.YtgfjmpnlkjocaaaDoorW.PrintMore
set_option linter.unusedVariables false
set_option linter.unusedSimpArgs false
theorem sum_ref (l : List Int) (hb : Bytes l) (hl : l.length ≤ 6000000) (k : Nat) (hk : l.length + 40 < k) : arrearsref6_Sum.f k l = some (sm l) := by
  obtain ⟨q, h1, h2⟩ := Doc.ext_same 0 (by omega) l hb hl k hk
  unfold arrearsref6_Sum.f
  rw [h2, Option.bind_some]
  unfold sm
  rw [h1]; rfl
theorem four_step (m x i : Nat) (acc : List Int) (hi : i < 4) (ha : acc.length ≤ 100) (hx : x < 4294967296) : arrearsref6_four.l0 (m + 1) (x : Int) acc (i : Int) = arrearsref6_four.l0 m ((x / 256 : Nat) : Int) (acc ++ [((x % 256 : Nat) : Int)]) ((i + 1 : Nat) : Int) := by
  rw [arrearsref6_four.l0, if_pos (by omega), if_pos (by omega), Int.tdiv_eq_ediv_of_nonneg (by omega), Int.tmod_eq_emod_of_nonneg (by omega), show wrap64 ((x : Int) / 256) = ((x / 256 : Nat) : Int) by unfold wrap64; omega, show wrap64 ((i : Int) + 1) = ((i + 1 : Nat) : Int) by unfold wrap64; omega, show (x : Int) % 256 % 256 = ((x % 256 : Nat) : Int) by omega]
theorem four_is (n : Nat) (hn : n < 4294967296) (k : Nat) (hk : 4 < k) : arrearsref6_four.f k (n : Int) = some (b4 n) := by
  obtain ⟨m, rfl⟩ : ∃ m, k = m + 1 + 1 + 1 + 1 + 1 := ⟨k - 5, by omega⟩
  unfold arrearsref6_four.f
  rw [show (0 : Int) = ((0 : Nat) : Int) from rfl, four_step _ n 0 [] (by omega) (by simp) hn, four_step _ _ 1 _ (by omega) (by simp) (by omega), four_step _ _ 2 _ (by omega) (by simp) (by omega), four_step _ _ 3 _ (by omega) (by simp) (by omega), arrearsref6_four.l0, if_neg (by omega)]
  unfold b4
  simp only [List.nil_append, List.cons_append]
  rw [show ((n % 256 : Nat) : Int) = (n : Int) % 256 by omega, show ((n / 256 % 256 : Nat) : Int) = (n : Int) / 256 % 256 by omega, show ((n / 256 / 256 % 256 : Nat) : Int) = (n : Int) / 65536 % 256 by omega, show ((n / 256 / 256 / 256 % 256 : Nat) : Int) = (n : Int) / 16777216 % 256 by omega]
theorem enc_l1 (s : List Int) (hs : s.length = 4) : ∀ (d i k : Nat) (x : List Int), i + d = 4 → d < k → x.length ≤ 100000000 → arrearsref6_Encode.l1 k (x ++ s.take i) s (i : Int) = some (x ++ s, true) := by
  intro d
  induction d with
  | zero =>
    intro i k x hi hk hx
    obtain ⟨k, rfl⟩ : ∃ m, k = m + 1 := ⟨k - 1, by omega⟩
    rw [arrearsref6_Encode.l1, if_neg (by omega), List.take_of_length_le (by omega)]
  | succ d ih =>
    intro i k x hi hk hx
    obtain ⟨k, rfl⟩ : ∃ m, k = m + 1 := ⟨k - 1, by omega⟩
    rw [arrearsref6_Encode.l1, if_pos (by omega), if_pos (by omega), if_pos (by omega), if_pos (by rw [List.length_append, List.length_take]; omega), show rd s (i : Int) = s[i]'(by omega) by unfold rd; simp [show i < s.length by omega], List.append_assoc, ← List.take_succ_eq_append_getElem (by omega), show wrap64 ((i : Int) + 1) = ((i + 1 : Nat) : Int) by unfold wrap64; omega]
    exact ih (i + 1) k x (by omega) (by omega) hx
theorem enc_ref (p : List Int) (h : Good p) (k : Nat) (hk : 2 * p.length + 200 < k) : arrearsref6_Encode.f k p = some (fr p, true) := by
  obtain ⟨hb, hl⟩ := h
  unfold arrearsref6_Encode.f
  rw [if_neg (by omega), four_is p.length (by omega) k (by omega), Option.bind_some]
  have main : ∀ (d i k : Nat), i + d = p.length → d + p.length + 100 < k → arrearsref6_Encode.l0 k p (b4 p.length ++ p.take i) (i : Int) = some (fr p, true) := by
    intro d
    induction d with
    | zero =>
      intro i k hi hk
      obtain ⟨k, rfl⟩ : ∃ m, k = m + 1 := ⟨k - 1, by omega⟩
      have hbb : Bytes (b4 p.length ++ p) := (b4_bytes _).append hb
      have hs := sm_prog (b4 p.length ++ p) hbb
      obtain ⟨z, hz⟩ := Int.eq_ofNat_of_zero_le hs.2.1
      rw [arrearsref6_Encode.l0, if_neg (by omega), List.take_of_length_le (by omega), sum_ref _ hbb (by rw [List.length_append, b4_len]; omega) k (by rw [List.length_append, b4_len]; omega), Option.bind_some, show wrap64 (sm (b4 p.length ++ p)) = ((z : Nat) : Int) by rw [hz]; unfold wrap64; omega, four_is z (by omega) k (by omega), Option.bind_some]
      have := enc_l1 (b4 (z : Int)) rfl 4 0 k (b4 p.length ++ p) (by omega) (by omega) (by rw [List.length_append, b4_len]; omega)
      rw [List.take_zero, List.append_nil] at this
      rw [show (0 : Int) = ((0 : Nat) : Int) from rfl, this]
      unfold fr
      rw [hz]
    | succ d ih =>
      intro i k hi hk
      obtain ⟨k, rfl⟩ : ∃ m, k = m + 1 := ⟨k - 1, by omega⟩
      rw [arrearsref6_Encode.l0, if_pos (by omega), if_pos (by omega), if_pos (by rw [List.length_append, List.length_take, b4_len]; omega), show rd p (i : Int) = p[i]'(by omega) by unfold rd; simp [show i < p.length by omega], List.append_assoc, ← List.take_succ_eq_append_getElem (by omega), show wrap64 ((i : Int) + 1) = ((i + 1 : Nat) : Int) by unfold wrap64; omega]
      exact ih (i + 1) k (by omega) (by omega)
  have := main p.length 0 k (by omega) (by omega)
  simpa using this
theorem enc_long (p : List Int) (hl : 4194304 < p.length) (k : Nat) : frame_Encode.f p = some ([], false) ∧ arrearsref6_Encode.f k p = some ([], false) := by
  constructor
  · unfold frame_Encode.f; rw [if_pos (by omega)]
  · unfold arrearsref6_Encode.f; rw [if_pos (by omega)]
/-- What Encode gives. -/
def encv (p : List Int) : List Int × Bool := if p.length ≤ 4194304 then (fr p, true) else ([], false)
theorem enc_prog (p : List Int) (hb : Bytes p) : frame_Encode.f p = some (encv p) := by
  unfold encv
  split
  · rename_i h; exact encode_is p ⟨hb, h⟩
  · rename_i h; exact (enc_long p (by omega) 0).1
theorem enc_doc (p : List Int) (hb : Bytes p) (k : Nat) (hk : 8388900 < k) : arrearsref6_Encode.f k p = some (encv p) := by
  unfold encv
  split
  · rename_i h; exact enc_ref p ⟨hb, h⟩ k (by omega)
  · rename_i h; exact (enc_long p (by omega) k).2
/-- What Join gives. -/
def joinv (ps : List (List Int)) : List Int × Bool := if ∀ p ∈ ps, p.length ≤ 4194304 then (jn ps, true) else ([], false)
theorem joinv_fr {ps : List (List Int)} {i : Nat} (h : i < ps.length) (hl : 4194304 < ps[i].length) : joinv ps = ([], false) := by
  unfold joinv
  rw [if_neg (fun h_ => by have := h_ _ (List.getElem_mem h); omega)]
theorem join_prog (x : List (List Int)) (hl : x.length ≤ 10000000) (hb : ∀ p ∈ x, Bytes p) (hj : (jn x).length ≤ 100000000) (k : Nat) (hk : x.length < k) : frame_Join.f k x = some (joinv x) := by
  have main : ∀ (d k i : Nat), i + d = x.length → d < k → (∀ p ∈ x.take i, p.length ≤ 4194304) → frame_Join.l0 k (jn (x.take i)) x (x.length : Int) (i : Int) = some (joinv x) := by
    intro d
    induction d with
    | zero =>
      intro k i hi hk hg
      obtain ⟨k, rfl⟩ : ∃ m, k = m + 1 := ⟨k - 1, by omega⟩
      rw [List.take_of_length_le (by omega)] at hg ⊢
      rw [frame_Join.l0, if_neg (by omega)]
      unfold joinv; rw [if_pos hg]
    | succ d ih =>
      intro k i hi hk hg
      obtain ⟨k, rfl⟩ : ∃ m, k = m + 1 := ⟨k - 1, by omega⟩
      have hlt : i < x.length := by omega
      rw [frame_Join.l0, if_pos (by omega), if_pos (by omega), if_pos (by omega), rdL_at x i hlt, enc_prog _ (hb _ (List.getElem_mem hlt)), Option.bind_some]
      unfold encv
      by_cases h4 : x[i].length ≤ 4194304
      · have e := jn_take x i hlt
        have h1 := jn_take_le x (i + 1)
        have h2 : (jn (x.take i)).length + (fr x[i]).length = (jn (x.take (i + 1))).length := by rw [e, List.length_append]
        rw [if_pos h4, if_pos rfl, if_pos (by show (jn (x.take i)).length + (fr x[i]).length < _; omega)]
        show frame_Join.l0 k (jn (x.take i) ++ fr x[i]) x (x.length : Int) (wrap64 ((i : Int) + 1)) = _
        rw [← e, show wrap64 ((i : Int) + 1) = ((i + 1 : Nat) : Int) from by unfold wrap64; omega]
        refine ih k (i + 1) (by omega) (by omega) (fun p hp => ?_)
        rw [List.take_succ_eq_append_getElem hlt] at hp
        rcases List.mem_append.1 hp with hp | hp
        · exact hg p hp
        · obtain rfl := List.mem_singleton.1 hp; exact h4
      · rw [if_neg h4, if_neg (by simp), joinv_fr hlt (by omega)]
  unfold frame_Join.f
  have := main x.length k 0 (by omega) hk (by simp)
  simpa [jn] using this
theorem join_doc (x : List (List Int)) (hl : x.length ≤ 10000000) (hb : ∀ p ∈ x, Bytes p) (hj : (jn x).length ≤ 100000000) (k : Nat) (hk : x.length + 8389000 < k) : arrearsref6_Join.f k x = some (joinv x) := by
  have main : ∀ (d k i : Nat), i + d = x.length → d + 8389000 < k → (∀ p ∈ x.take i, p.length ≤ 4194304) → arrearsref6_Join.l0 k x (jn (x.take i)) (i : Int) = some (joinv x) := by
    intro d
    induction d with
    | zero =>
      intro k i hi hk hg
      obtain ⟨k, rfl⟩ : ∃ m, k = m + 1 := ⟨k - 1, by omega⟩
      rw [List.take_of_length_le (by omega)] at hg ⊢
      rw [arrearsref6_Join.l0, if_neg (by omega)]
      unfold joinv; rw [if_pos hg]
    | succ d ih =>
      intro k i hi hk hg
      obtain ⟨k, rfl⟩ : ∃ m, k = m + 1 := ⟨k - 1, by omega⟩
      have hlt : i < x.length := by omega
      rw [arrearsref6_Join.l0, if_pos (by omega), if_pos (by omega), rdL_at x i hlt, enc_doc _ (hb _ (List.getElem_mem hlt)) k (by omega), Option.bind_some]
      unfold encv
      by_cases h4 : x[i].length ≤ 4194304
      · have e := jn_take x i hlt
        have h1 := jn_take_le x (i + 1)
        have h2 : (jn (x.take i)).length + (fr x[i]).length = (jn (x.take (i + 1))).length := by rw [e, List.length_append]
        rw [if_pos h4, if_pos rfl, if_pos (by show (jn (x.take i)).length + (fr x[i]).length < _; omega)]
        show arrearsref6_Join.l0 k x (jn (x.take i) ++ fr x[i]) (wrap64 ((i : Int) + 1)) = _
        rw [← e, show wrap64 ((i : Int) + 1) = ((i + 1 : Nat) : Int) from by unfold wrap64; omega]
        refine ih k (i + 1) (by omega) (by omega) (fun p hp => ?_)
        rw [List.take_succ_eq_append_getElem hlt] at hp
        rcases List.mem_append.1 hp with hp | hp
        · exact hg p hp
        · obtain rfl := List.mem_singleton.1 hp; exact h4
      · rw [if_neg h4, if_neg (by simp), joinv_fr hlt (by omega)]
  unfold arrearsref6_Join.f
  have := main x.length k 0 (by omega) (by omega) (by simp)
  simpa [jn] using this
theorem encodes_is (p : List Int) (hb : Bytes p) (hl : p.length ≤ 6000000) (k : Nat) (hk : 12000000 < k) : arrearslaw6_encodes.f k p = some true := by
  unfold arrearslaw6_encodes.f
  have hm : (Doc.marks 0 5).length = 5 := rfl
  rw [Doc.roomy_is p hl k (by omega), Option.bind_some, if_pos (by omega), if_pos (by rw [List.length_append]; omega), show ((p.length : Int)).toNat = p.length by omega, List.take_left, enc_prog p hb, Option.bind_some, enc_doc p hb k (by omega), Option.bind_some]
  have hel : (encv p).1.length ≤ 6000008 := by unfold encv; split; (rw [fr_len]; omega); simp
  rw [if_pos (by simp), same_self _ (by omega) k (by omega), Option.bind_some, if_pos rfl, Option.bind_some, same_self _ (by rw [List.length_append]; omega) k (by rw [List.length_append]; omega), Option.bind_some]
end Go.Proofs.YtgfjmpnlkjocaaaDoor.J
