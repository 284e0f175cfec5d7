/- FrameSpoilt: bits that are turned in one frame within thirty-two in a row, behind its length, never let it pass, whatever stands behind it. No condition but the numbers' range. -/
import Derived.Test.YtgfjmpnlkjocaaaDoorPFrameX
import Derived.Test.YtgfjmpnlkjocaaaDoorPFrameS
import Derived.Test.YtgfjmpnlkjocaaaDoorPx3
import Derived.Test.YtgfjmpnlkjocaaaDoorPx4
namespace Go.Proofs.YtgfjmpnlkjocaaaDoor.P
open Go.RowKit Go.Proofs.YtgfjmpnlkjocaaaDoorW.PrintWords Go.Proofs.YtgfjmpnlkjocaaaDoorW.PrintLast Go.Proofs.YtgfjmpnlkjocaaaDoorW.PrintMore
set_option linter.unusedVariables false
set_option linter.unusedSimpArgs false

theorem u8w (n : Int) : IntKind.u8.wrap n = n % 256 := by simp [IntKind.wrap, IntKind.bits, IntKind.signed]
theorem xor8 (a b : Nat) (ha : a < 256) (hb : b < 256) : Go.bits .xor .u8 (a : Int) (b : Int) = ((a ^^^ b : Nat) : Int) ∧ a ^^^ b < 256 := by
  have hx : a ^^^ b < 2 ^ 8 := Nat.xor_lt_two_pow (by omega) (by omega)
  have h1 : (BitVec.ofInt 8 (a : Int)).toNat = a := by
    rw [BitVec.ofInt_natCast, BitVec.toNat_ofNat]; exact Nat.mod_eq_of_lt (by omega)
  have h2 : (BitVec.ofInt 8 (b : Int)).toNat = b := by
    rw [BitVec.ofInt_natCast, BitVec.toNat_ofNat]; exact Nat.mod_eq_of_lt (by omega)
  refine ⟨?_, by omega⟩
  show IntKind.u8.wrap ((BitVec.ofInt 8 (a : Int) ^^^ BitVec.ofInt 8 (b : Int)).toNat : Int) = _
  rw [BitVec.toNat_xor, h1, h2, u8w]
  omega
theorem pow8 (m : Nat) (h : m < 8) : 2 ^ m < 256 := by
  have : m = 0 ∨ m = 1 ∨ m = 2 ∨ m = 3 ∨ m = 4 ∨ m = 5 ∨ m = 6 ∨ m = 7 := by omega
  rcases this with rfl | rfl | rfl | rfl | rfl | rfl | rfl | rfl <;> decide
/-- One bit of a file turned. -/
def flip (l : List Int) (b : Nat) : List Int := l.set (b / 8) (((l.getD (b / 8) 0).toNat ^^^ 2 ^ (b % 8) : Nat) : Int)
theorem flip_bytes {l : List Int} (hb : Bytes l) (b : Nat) (h : b / 8 < l.length) : Bytes (flip l b) := by
  intro x hx
  rcases List.mem_or_eq_of_mem_set hx with h1 | h1
  · exact hb x h1
  · have hm : l.getD (b / 8) 0 = l[b / 8] := by simp [h]
    have hr := hb l[b / 8] (List.getElem_mem _)
    obtain ⟨n, hn⟩ := nat_of hr
    have := (xor8 n (2 ^ (b % 8)) (by omega) (pow8 _ (Nat.mod_lt _ (by decide)))).2
    rw [h1, hm, hn, Int.toNat_natCast]
    omega
theorem turn_is (l : List Int) (hb : Bytes l) (hl : l.length ≤ 100000000) (b : Nat) (h : b / 8 < l.length) (k : Nat) (hk : 20 < k) : arrearslaw6_turn.f k l (b : Int) = some (flip l b) := by
  have hmod : Int.tmod (b : Int) 8 = ((b % 8 : Nat) : Int) := by rw [Int.tmod_eq_emod_of_nonneg (by omega)]; omega
  have hdiv : wrap64 (Int.tdiv (b : Int) 8) = ((b / 8 : Nat) : Int) := by rw [Int.tdiv_eq_ediv_of_nonneg (by omega), pl_w64 (by omega) (by omega)]; omega
  have loop : ∀ (d k j : Nat), j + d = b % 8 → d < k → arrearslaw6_turn.l0 k l (b : Int) ((2 ^ j : Nat) : Int) (j : Int) = some (flip l b) := by
    intro d
    induction d with
    | zero =>
      intro k j hj hk
      obtain ⟨k, rfl⟩ : ∃ m, k = m + 1 := ⟨k - 1, by omega⟩
      have hr := rd_byte hb (b / 8) h
      obtain ⟨n, hn⟩ := nat_of hr
      have hg : l.getD (b / 8) 0 = rd l ((b / 8 : Nat) : Int) := by rw [rd_at l _ h]; simp [h]
      have hj2 : j = b % 8 := by omega
      simp only [arrearslaw6_turn.l0]
      rw [hmod, if_neg (by omega), hdiv, if_pos (by omega), if_pos (by omega), hn, (xor8 n (2 ^ j) (by omega) (pow8 j (by omega))).1, Int.toNat_natCast]
      unfold flip
      rw [hg, hn, Int.toNat_natCast, hj2]
    | succ d ih =>
      intro k j hj hk
      obtain ⟨k, rfl⟩ : ∃ m, k = m + 1 := ⟨k - 1, by omega⟩
      have hp := pow8 (j + 1) (by omega)
      simp only [arrearslaw6_turn.l0]
      rw [hmod, if_pos (by omega), show (((2 ^ j : Nat) : Int) * 2) % 256 = ((2 ^ (j + 1) : Nat) : Int) from by rw [Nat.pow_succ] at hp ⊢; omega, show wrap64 ((j : Int) + 1) = ((j + 1 : Nat) : Int) from by rw [pl_w64 (by omega) (by omega)]; omega]
      exact ih k (j + 1) (by omega) (by omega)
  unfold arrearslaw6_turn.f
  have := loop (b % 8) k 0 (by omega) (by omega)
  simpa using this
theorem flip_append (l y : List Int) (b : Nat) (h : b / 8 < l.length) : flip (l ++ y) b = flip l b ++ y := by
  unfold flip
  rw [List.set_append_left _ _ h, show (l ++ y).getD (b / 8) 0 = l.getD (b / 8) 0 from by simp [h, List.getElem?_append_left h]]
theorem flip_num (l : List Int) (b : Nat) (h : b / 8 < l.length) : num (flip l b) = num l ^^^ 2 ^ b := by
  unfold flip
  rw [num_set _ l _ h, ← Nat.pow_add, show 8 * (b / 8) + b % 8 = b from by omega]
theorem flip_len (l : List Int) (b : Nat) : (flip l b).length = l.length := List.length_set
theorem flip_wd (l : List Int) (b : Nat) (h : 32 ≤ b) : wd (flip l b) = wd l := by
  have e : ∀ i : Nat, i < 4 → rd (flip l b) (i : Int) = rd l (i : Int) := fun i hi => by
    unfold rd flip
    simp only [Int.toNat_natCast, List.getD_eq_getElem?_getD]
    rw [List.getElem?_set_ne (by omega)]
  unfold wd
  rw [show rd (flip l b) 0 = rd l 0 from e 0 (by omega), show rd (flip l b) 1 = rd l 1 from e 1 (by omega), show rd (flip l b) 2 = rd l 2 from e 2 (by omega), show rd (flip l b) 3 = rd l 3 from e 3 (by omega)]
theorem wd_append (l y : List Int) (h : 4 ≤ l.length) : wd (l ++ y) = wd l := by
  have e : ∀ i : Nat, i < 4 → rd (l ++ y) (i : Int) = rd l (i : Int) := fun i hi => by
    unfold rd
    simp only [Int.toNat_natCast, List.getD_eq_getElem?_getD]
    rw [List.getElem?_append_left (by omega)]
  unfold wd
  rw [show rd (l ++ y) 0 = rd l 0 from e 0 (by omega), show rd (l ++ y) 1 = rd l 1 from e 1 (by omega), show rd (l ++ y) 2 = rd l 2 from e 2 (by omega), show rd (l ++ y) 3 = rd l 3 from e 3 (by omega)]
/-- What a turned frame is. -/
theorem spec_spoilt (p x y : List Int) (h : Good p) (hb : Bytes x) (hl : x.length = p.length + 8) (hw : wd x = p.length) (hs : sm (x.take (4 + p.length)) ≠ wd (x.drop (4 + p.length))) : spec (x ++ y) 0 = (false, 0, 3) := by
  have hlen : (x ++ y).length = p.length + 8 + y.length := by rw [List.length_append, hl]
  have hp := h.2
  unfold spec
  rw [List.drop_zero, wd_append x y (by omega), hw, if_neg (by omega), if_neg (by omega), if_neg (by omega), if_neg (by omega), show (4 + (p.length : Int)).toNat = 4 + p.length from by omega, List.take_append_of_le_length (by omega), List.drop_append_of_le_length (by omega), wd_append _ y (by rw [List.length_drop]; omega), if_neg hs]
/-- The frame behind some turns: which number's bits were turned. -/
def Inv (p y : List Int) (f i : Nat) (x11 : List Int) (b : Bool) : Prop :=
  ∃ (x : List Int) (W : Nat), x11 = x ++ y ∧ Bytes x ∧ x.length = p.length + 8 ∧ wd x = p.length ∧ num x = num (fr p) ^^^ 2 ^ f * W ∧ W < 2 ^ i ∧ (b = false → W = 0) ∧ (b = true → W ≠ 0)
theorem inv_skip {p y : List Int} {f i : Nat} {x11 : List Int} {b : Bool} (h : Inv p y f i x11 b) : Inv p y f (i + 1) x11 b := by
  obtain ⟨x, W, h1, h2, h3, h4, h5, h6, h7⟩ := h
  exact ⟨x, W, h1, h2, h3, h4, h5, by rw [Nat.pow_succ]; omega, h7⟩
theorem inv_turn {p y : List Int} {f i : Nat} {x11 : List Int} {b : Bool} (h : Inv p y f i x11 b) (hf : 32 ≤ f) (hlt : f + i < 8 * (p.length + 8)) : Inv p y f (i + 1) (flip x11 (f + i)) true ∧ (f + i) / 8 < x11.length := by
  obtain ⟨x, W, rfl, h2, h3, h4, h5, h6, h7, h8⟩ := h
  have hp : (f + i) / 8 < x.length := by omega
  have hx := xor_add i 1 W h6
  rw [Nat.mul_one] at hx
  refine ⟨⟨flip x (f + i), W ^^^ 2 ^ i, flip_append x y _ hp, flip_bytes h2 _ hp, by rw [flip_len]; exact h3, by rw [flip_wd _ _ (by omega)]; exact h4, ?_, ?_, (fun e => by cases e), fun _ => ?_⟩, by rw [List.length_append]; omega⟩
  · rw [flip_num x _ hp, h5, mul_xor, ← Nat.pow_add, Nat.xor_assoc]
  · rw [hx, Nat.pow_succ]; omega
  · rw [hx]
    have : 0 < 2 ^ i := Nat.pow_pos (by omega)
    omega
theorem spoilt_end (p y : List Int) (h : Good p) (hy : Bytes y) (hyl : y.length ≤ 6000000) (f : Nat) (hf : f < 8 * (p.length + 8)) (x11 : List Int) (hi : Inv p y f 32 x11 true) (k : Nat) (hk : 10 < k) : frame_Decode.f x11 0 = some ([], 0, 3) ∧ frame_Scan.f k x11 = some ([], 0, 3) := by
  obtain ⟨x, W, rfl, h2, h3, h4, h5, h6, h7, h8⟩ := hi
  have hp := h.2
  have hs := spec_spoilt p x y h h2 h3 h4 (burst p x h h2 h3 f W hf (by omega) (h8 rfl) h5)
  have hb : Bytes (x ++ y) := h2.append hy
  have hl : (x ++ y).length = p.length + 8 + y.length := by rw [List.length_append, h3]
  constructor
  · unfold frame_Decode.f
    rw [if_neg (by omega), show ((0 : Int)).toNat = 0 from rfl, nx_is _ hb 0 (by omega), hs]
    rfl
  · obtain ⟨k, rfl⟩ : ∃ m, k = m + 1 := ⟨k - 1, by omega⟩
    unfold frame_Scan.f
    rw [if_pos (by omega), g_succ, nx_is _ hb 0 (by omega), hs]
    rfl
theorem spoilt_none (x1 : Int) (L x11 : List Int) (hn : ¬ (x1 ≥ 32 ∧ x1 < wrap64 (8 * (L.length : Int)))) (d : Nat) : ∀ (k i : Nat) (x2 : Int), i + d = 32 → d < k → arrearslaw6_FrameSpoilt.l0 k x1 x2 L x11 false (i : Int) = some true := by
  induction d with
  | zero =>
    intro k i x2 hi hk
    obtain ⟨k, rfl⟩ : ∃ m, k = m + 1 := ⟨k - 1, by omega⟩
    rw [arrearslaw6_FrameSpoilt.l0, if_neg (by omega), if_neg (by simp)]
  | succ d ih =>
    intro k i x2 hi hk
    obtain ⟨k, rfl⟩ : ∃ m, k = m + 1 := ⟨k - 1, by omega⟩
    have e : wrap64 ((i : Int) + 1) = ((i + 1 : Nat) : Int) := by rw [pl_w64 (by omega) (by omega)]; omega
    have h := ih k (i + 1) (Int.tdiv x2 2 % 4294967296) (by omega) (by omega)
    rw [arrearslaw6_FrameSpoilt.l0, if_pos (by omega), e]
    by_cases c1 : Int.tmod x2 2 = 1
    · rw [if_pos c1]
      by_cases c2 : x1 ≥ 32
      · rw [if_pos c2, if_neg (fun c3 => hn ⟨c2, c3⟩)]; exact h
      · rw [if_neg c2]; exact h
    · rw [if_neg c1]; exact h
theorem spoilt_loop (p y : List Int) (h : Good p) (hy : Bytes y) (hyl : y.length ≤ 6000000) (f : Nat) (h32 : 32 ≤ f) (hf : f < 8 * (p.length + 8)) (d : Nat) : ∀ (k i : Nat) (x2 : Int) (x11 : List Int) (b : Bool), i + d = 32 → d + 100 < k → Inv p y f i x11 b → arrearslaw6_FrameSpoilt.l0 k (f : Int) x2 (fr p) x11 b (i : Int) = some true := by
  have hp := h.2
  induction d with
  | zero =>
    intro k i x2 x11 b hi hk hinv
    obtain ⟨k, rfl⟩ : ∃ m, k = m + 1 := ⟨k - 1, by omega⟩
    obtain rfl : i = 32 := by omega
    rw [arrearslaw6_FrameSpoilt.l0, if_neg (by omega)]
    cases b with
    | false => rw [if_neg (by simp)]
    | true =>
      obtain ⟨e1, e2⟩ := spoilt_end p y h hy hyl f hf x11 hinv k (by omega)
      simp [e1, e2]
  | succ d ih =>
    intro k i x2 x11 b hi hk hinv
    obtain ⟨k, rfl⟩ : ∃ m, k = m + 1 := ⟨k - 1, by omega⟩
    have e : wrap64 ((i : Int) + 1) = ((i + 1 : Nat) : Int) := by rw [pl_w64 (by omega) (by omega)]; omega
    have hskip := ih k (i + 1) (Int.tdiv x2 2 % 4294967296) x11 b (by omega) (by omega) (inv_skip hinv)
    have hlen : wrap64 (8 * ((fr p).length : Int)) = 8 * ((p.length : Int) + 8) := by rw [fr_len, pl_w64 (by omega) (by omega)]; omega
    have hpl : wrap64 ((f : Int) + (i : Int)) = ((f + i : Nat) : Int) := by rw [pl_w64 (by omega) (by omega)]; omega
    rw [arrearslaw6_FrameSpoilt.l0, if_pos (by omega), e, hlen, hpl]
    by_cases c1 : Int.tmod x2 2 = 1
    · rw [if_pos c1, if_pos (by omega), if_pos (by omega)]
      by_cases c2 : ((f + i : Nat) : Int) < 8 * ((p.length : Int) + 8)
      · obtain ⟨hinv2, hlt⟩ := inv_turn hinv h32 (by omega)
        obtain ⟨x, W, hx, hbx, hxl, _⟩ := hinv
        rw [if_pos c2, turn_is x11 (by rw [hx]; exact hbx.append hy) (by rw [hx, List.length_append]; omega) (f + i) hlt k (by omega), Option.bind_some]
        exact ih k (i + 1) _ _ true (by omega) (by omega) hinv2
      · rw [if_neg c2]; exact hskip
    · rw [if_neg c1]; exact hskip
def FrameSpoilt_Pure : Prop := ∀ (B0 B3 : Nat) (l0 : List Int) (a1 : Int) (a2 : Int) (l3 : List Int), ((∀ x_ ∈ l0, (Lit.int .u8 x_).wf = true) ∧ l0.length * 1 ≤ 140737488351232 ∧ l0.length ≤ B0) → ((Lit.int .i64 a1).wf = true) → ((Lit.int .u32 a2).wf = true) → ((∀ x_ ∈ l3, (Lit.int .u8 x_).wf = true) ∧ l3.length * 1 ≤ 140737488351232 ∧ l3.length ≤ B3) → ∃ k, arrearslaw6_FrameSpoilt.f k l0 a1 a2 l3 = some true
theorem FrameSpoilt_pure : FrameSpoilt_Pure := by
  intro B0 B3 p a1 a2 y h0 _ _ h3
  have hbp : Bytes p := fun x hx => by simpa [Lit.wf, IntKind.min, IntKind.max, IntKind.bits, IntKind.signed] using h0.1 x hx
  have hby : Bytes y := fun x hx => by simpa [Lit.wf, IntKind.min, IntKind.max, IntKind.bits, IntKind.signed] using h3.1 x hx
  refine ⟨50000000 + 1 + 1 + 1, ?_⟩
  generalize hk : 50000000 = k
  unfold arrearslaw6_FrameSpoilt.f
  by_cases c0 : (p.length : Int) > 4194304
  · rw [if_pos c0, arrearslaw6_FrameSpoilt.j0, if_pos rfl]
  rw [if_neg c0]
  by_cases c1 : (y.length : Int) > 6000000
  · rw [show decide ((y.length : Int) > 6000000) = true from decide_eq_true c1, arrearslaw6_FrameSpoilt.j0, if_pos rfl]
  have hg : Good p := ⟨hbp, by omega⟩
  have hl := fr_len p
  rw [show decide ((y.length : Int) > 6000000) = false from decide_eq_false c1, arrearslaw6_FrameSpoilt.j0, if_neg (by simp), copied_is p (by omega) _ (by omega), Option.bind_some, encode_is p hg, Option.bind_some, if_pos rfl,
    show ((((fr p, true) : List Int × Bool).1.length : Int) != wrap64 ((p.length : Int) + 8)) = false from by rw [pl_w64 (by omega) (by omega), bne_eq_false_iff_eq]; show ((fr p).length : Int) = _; omega]
  show arrearslaw6_FrameSpoilt.j1 (k + 1 + 1) p a1 a2 y (fr p) false = some true
  have hbf : Bytes (fr p ++ y) := (fr_bytes hbp).append hby
  have hlf : (fr p ++ y).length = p.length + 8 + y.length := by rw [List.length_append, hl]
  have hdec : frame_Decode.f (fr p ++ y) 0 = some (p, ((fr p).length : Int), 0) := by
    unfold frame_Decode.f
    rw [if_neg (by omega), show ((0 : Int)).toNat = 0 from rfl, nx_is _ hbf 0 (by omega), spec_fr p y hg, if_pos rfl, pay_fr, Option.bind_some, hl]
    simp only [Option.some.injEq, Prod.mk.injEq, true_and, and_true]
    omega
  rw [arrearslaw6_FrameSpoilt.j1, if_neg (by simp), plus_is (fr p) y (by omega) (by omega) _ (by omega), Option.bind_some, hdec, Option.bind_some, same_self p (by omega) _ (by omega), Option.bind_some, if_pos rfl, if_pos rfl, show ((((p, ((fr p).length : Int), (0 : Int)) : List Int × Int × Int).2.2) != 0) = false from rfl]
  rw [arrearslaw6_FrameSpoilt.j2, if_neg (by simp)]
  by_cases c2 : a1 ≥ 32 ∧ a1 < wrap64 (8 * ((fr p).length : Int))
  · obtain ⟨f, rfl⟩ := Int.eq_ofNat_of_zero_le (show 0 ≤ a1 by omega)
    have hlen : wrap64 (8 * ((fr p).length : Int)) = 8 * ((p.length : Int) + 8) := by rw [fr_len, pl_w64 (by omega) (by omega)]; omega
    rw [hlen] at c2
    have hw : wd (fr p) = p.length := by
      have := wd_fr p [] (by omega)
      rwa [List.append_nil] at this
    exact spoilt_loop p y hg hby (by omega) f (by omega) (by omega) 32 k 0 a2 _ false (by omega) (by omega) ⟨fr p, 0, rfl, fr_bytes hbp, hl, hw, by rw [Nat.mul_zero, Nat.xor_zero], by simp, fun _ => rfl, (fun e => by cases e)⟩
  · exact spoilt_none a1 (fr p) _ c2 32 k 0 a2 (by omega) (by omega)
end Go.Proofs.YtgfjmpnlkjocaaaDoor.P
