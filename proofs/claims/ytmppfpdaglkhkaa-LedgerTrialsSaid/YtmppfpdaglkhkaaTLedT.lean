/- Plain facts: numbers of 128 bits; Trial's two sums. No condition. -/
import Derived.Test.YtmppfpdaglkhkaaTSum
import Derived.Test.YtmppfpdaglkhkaaTx1
import Derived.Test.YtmppfpdaglkhkaaTx2
namespace Go.Proofs.Ytmppfpdaglkhkaa.T
open Go.RowKit Go.Proofs.YtmppfpdaglkhkaaW.PrintWords Go.Proofs.YtmppfpdaglkhkaaW.PrintLast
set_option linter.unusedVariables false
set_option linter.unusedSimpArgs false
theorem w64 {x : Int} (h0 : -9223372036854775808 ≤ x) (h1 : x ≤ 9223372036854775807) : wrap64 x = x := by unfold wrap64; omega
theorem selI_nat (l : List Int) (i : Nat) : selI l (i : Int) = l.getD i 0 := by unfold selI; rw [Int.toNat_natCast]
def Wd.pl (p : Int × Int) (x : Int) : Int × Int := (wrap64 (wrap64 (p.1 + x / 9223372036854775808) + ledger_wide_plus.c p.2 x), ledger_wide_plus.s p.2 x)
def Wd.mi (p : Int × Int) (x : Int) : Int × Int := (wrap64 (wrap64 (p.1 - x / 9223372036854775808) - ledger_wide_minus.c p.2 x), ledger_wide_minus.s p.2 x)
def Wd.ok (p : Int × Int) : Prop := 0 ≤ p.2 ∧ p.2 ≤ 18446744073709551615
def Wd.val (p : Int × Int) : Int := p.1 * 18446744073709551616 + p.2
abbrev Wd.in64 (x : Int) : Prop := -9223372036854775808 ≤ x ∧ x ≤ 9223372036854775807
theorem Wd.wrap_id {x : Int} (h : Wd.in64 x) : wrap64 x = x := by unfold Wd.in64 at h; unfold wrap64; omega
def Wd.big (x : Int) : Prop := -85070591730234615865843651857942052864 ≤ x ∧ x ≤ 85070591730234615865843651857942052864
theorem Wd.pl_ok (p : Int × Int) (x : Int) : Wd.ok (Wd.pl p x) := by
  unfold Wd.ok Wd.pl ledger_wide_plus.s; dsimp only; omega
theorem Wd.mi_ok (p : Int × Int) (x : Int) : Wd.ok (Wd.mi p x) := by
  unfold Wd.ok Wd.mi ledger_wide_minus.s; dsimp only; omega
theorem Wd.pl_val {p : Int × Int} (h : Wd.ok p) {x : Int} (hx : Wd.in64 x) (hv : Wd.big (Wd.val p)) : Wd.val (Wd.pl p x) = Wd.val p + x := by
  unfold Wd.ok at h; unfold Wd.in64 at hx; unfold Wd.big Wd.val at hv
  have h1 : -4611686018427387905 ≤ p.1 ∧ p.1 ≤ 4611686018427387904 := by omega
  have h2 : -1 ≤ x / 9223372036854775808 ∧ x / 9223372036854775808 ≤ 0 := by omega
  have h3 : 0 ≤ ledger_wide_plus.c p.2 x ∧ ledger_wide_plus.c p.2 x ≤ 1 := by unfold ledger_wide_plus.c; omega
  have h4 : ledger_wide_plus.c p.2 x * 18446744073709551616 + ledger_wide_plus.s p.2 x = p.2 + x % 18446744073709551616 := by unfold ledger_wide_plus.c ledger_wide_plus.s; omega
  have h5 : x % 18446744073709551616 = x - (x / 9223372036854775808) * 18446744073709551616 := by omega
  unfold Wd.val Wd.pl
  rw [Wd.wrap_id (x := p.1 + x / 9223372036854775808) (by unfold Wd.in64; omega), Wd.wrap_id (by unfold Wd.in64; omega)]
  dsimp only; omega
theorem Wd.mi_val {p : Int × Int} (h : Wd.ok p) {x : Int} (hx : Wd.in64 x) (hv : Wd.big (Wd.val p)) : Wd.val (Wd.mi p x) = Wd.val p - x := by
  unfold Wd.ok at h; unfold Wd.in64 at hx; unfold Wd.big Wd.val at hv
  have h1 : -4611686018427387905 ≤ p.1 ∧ p.1 ≤ 4611686018427387904 := by omega
  have h2 : -1 ≤ x / 9223372036854775808 ∧ x / 9223372036854775808 ≤ 0 := by omega
  have h3 : 0 ≤ ledger_wide_minus.c p.2 x ∧ ledger_wide_minus.c p.2 x ≤ 1 := by unfold ledger_wide_minus.c; split <;> omega
  have h4 : ledger_wide_minus.s p.2 x - ledger_wide_minus.c p.2 x * 18446744073709551616 = p.2 - x % 18446744073709551616 := by unfold ledger_wide_minus.c ledger_wide_minus.s; split <;> omega
  have h5 : x % 18446744073709551616 = x - (x / 9223372036854775808) * 18446744073709551616 := by omega
  unfold Wd.val Wd.mi
  rw [Wd.wrap_id (x := p.1 - x / 9223372036854775808) (by unfold Wd.in64; omega), Wd.wrap_id (by unfold Wd.in64; omega)]
  dsimp only; omega
def Wd.fits (p : Int × Int) : Bool := p.1 == wrap64 p.2 / 9223372036854775808 && wrap64 p.2 != -9223372036854775808
theorem Wd.fits_iff {p : Int × Int} (h : Wd.ok p) : Wd.fits p = true ↔ (-9223372036854775808 < Wd.val p ∧ Wd.val p ≤ 9223372036854775807) := by
  unfold Wd.ok at h; unfold Wd.fits Wd.val
  rw [Bool.and_eq_true, beq_iff_eq, bne_iff_ne]
  unfold wrap64; omega
theorem Wd.fits_val {p : Int × Int} (h : Wd.ok p) (hf : Wd.fits p = true) : wrap64 p.2 = Wd.val p := by
  have h2 := (Wd.fits_iff h).1 hf
  unfold Wd.ok at h; unfold Wd.val at h2 ⊢; unfold wrap64; omega


theorem Wd.pl_f {p : Int × Int} (h : Wd.ok p) (x : Int) : ledger_wide_plus.f p.1 p.2 x = some ((Wd.pl p x).1, (Wd.pl p x).2) := by
  unfold ledger_wide_plus.f; rw [if_pos (show 0 ≤ p.2 ∧ p.2 ≤ 18446744073709551615 from h)]; rfl
theorem Wd.mi_f {p : Int × Int} (h : Wd.ok p) (x : Int) : ledger_wide_minus.f p.1 p.2 x = some ((Wd.mi p x).1, (Wd.mi p x).2) := by
  unfold ledger_wide_minus.f; rw [if_pos (show 0 ≤ p.2 ∧ p.2 ≤ 18446744073709551615 from h)]; rfl
def Bk (b : List Int) : Prop := b.length = 12 ∧ ∀ x ∈ b, Wd.in64 x
theorem Bk.get {b : List Int} (h : Bk b) (i : Nat) : Wd.in64 (b.getD i 0) := by
  rw [List.getD_eq_getElem?_getD]
  cases hi : b[i]? with
  | none => exact ⟨by decide, by decide⟩
  | some x => exact h.2 x (List.mem_of_getElem? hi)
def posn (x : Int) : Int := if x > 0 then x else 0
def negn (x : Int) : Int := if x > 0 then 0 else -x
/-- The sum of f over the first i places. -/
def S (f : Nat → Int → Int) (b : List Int) (i : Nat) : Int := ((List.range i).map (fun j => f j (b.getD j 0))).sum
theorem S_succ (f : Nat → Int → Int) (b : List Int) (i : Nat) : S f b (i + 1) = S f b i + f i (b.getD i 0) := by
  unfold S
  rw [List.range_succ, List.map_append, List.sum_append_int]; simp
theorem S_le {f : Nat → Int → Int} {b : List Int} {M : Int} (h : ∀ j, 0 ≤ f j (b.getD j 0) ∧ f j (b.getD j 0) ≤ M) : ∀ i : Nat, 0 ≤ S f b i ∧ S f b i ≤ (i : Int) * M
  | 0 => by unfold S; simp
  | i + 1 => by
    have h1 := S_le h i
    have h2 := h i
    rw [S_succ, show ((i + 1 : Nat) : Int) * M = (i : Int) * M + M by rw [Int.natCast_add, Int.add_mul]; omega]
    omega
theorem nar {p : Int × Int} (h : Wd.ok p) : (p.1 == wrap64 p.2 / 9223372036854775808) = decide (Wd.in64 (Wd.val p)) ∧ (Wd.in64 (Wd.val p) → wrap64 p.2 = Wd.val p) := by
  unfold Wd.ok at h
  unfold Wd.val Wd.in64
  constructor
  · rw [Bool.eq_iff_iff, beq_iff_eq, decide_eq_true_eq]
    unfold wrap64; omega
  · unfold wrap64; omega
def trialOf (b : List Int) : Int × Int × Bool := if Wd.in64 (S (fun _ => posn) b 12) ∧ Wd.in64 (S (fun _ => negn) b 12) then (S (fun _ => posn) b 12, S (fun _ => negn) b 12, true) else (0, 0, false)
theorem trial_loop (a0 a1 a2 a3 a4 a5 a6 a7 a8 a9 a10 a11 : Int) (hb : Bk [a0, a1, a2, a3, a4, a5, a6, a7, a8, a9, a10, a11]) : ∀ (d i m : Nat) (p q : Int × Int), i + d = 12 → Wd.ok p → Wd.ok q → Wd.val p = S (fun _ => posn) [a0, a1, a2, a3, a4, a5, a6, a7, a8, a9, a10, a11] i → Wd.val q = S (fun _ => negn) [a0, a1, a2, a3, a4, a5, a6, a7, a8, a9, a10, a11] i →
    ledger_Trial.l0 (d + 1 + m) (i : Int) a0 a1 a2 a3 a4 a5 a6 a7 a8 a9 a10 a11 p.1 p.2 q.1 q.2 = some (trialOf [a0, a1, a2, a3, a4, a5, a6, a7, a8, a9, a10, a11]) := by
  intro d
  induction d with
  | zero =>
    intro i m p q h hp hq vp vq
    obtain rfl : i = 12 := by omega
    have np := nar hp
    have nq := nar hq
    rw [show 0 + 1 + m = m + 1 by omega, ledger_Trial.l0, if_neg (by omega)]
    unfold ledger_wide_narrow.f
    simp only [Option.bind_some]
    unfold trialOf
    rw [np.1, nq.1, ← vp, ← vq]
    by_cases c1 : Wd.in64 (Wd.val p)
    · rw [decide_eq_true c1, if_pos rfl, np.2 c1]
      by_cases c2 : Wd.in64 (Wd.val q)
      · rw [decide_eq_true c2, if_pos rfl, nq.2 c2, if_pos ⟨c1, c2⟩]
      · rw [decide_eq_false c2, if_neg (by simp), if_neg (fun h => c2 h.2)]
    · rw [decide_eq_false c1, if_neg (by simp), if_neg (fun h => c1 h.1)]
  | succ d ih =>
    intro i m p q h hp hq vp vq
    have hx := hb.get i
    have e : wrap64 ((i : Int) + 1) = ((i + 1 : Nat) : Int) := by rw [w64 (by omega) (by omega)]; omega
    have bp := (S_le (f := fun _ => posn) (b := [a0, a1, a2, a3, a4, a5, a6, a7, a8, a9, a10, a11]) (M := 9223372036854775808) (fun j => by have := hb.get j; unfold Wd.in64 at this; unfold posn; split <;> omega) i)
    have bq := (S_le (f := fun _ => negn) (b := [a0, a1, a2, a3, a4, a5, a6, a7, a8, a9, a10, a11]) (M := 9223372036854775808) (fun j => by have := hb.get j; unfold Wd.in64 at this; unfold negn; split <;> omega) i)
    have hpb : Wd.big (Wd.val p) := by rw [vp]; unfold Wd.big; omega
    have hqb : Wd.big (Wd.val q) := by rw [vq]; unfold Wd.big; omega
    rw [show d + 1 + 1 + m = (d + 1 + m) + 1 by omega, ledger_Trial.l0, if_pos (by omega), if_pos (by omega), selI_nat, e]
    by_cases c : [a0, a1, a2, a3, a4, a5, a6, a7, a8, a9, a10, a11].getD i 0 > 0
    · rw [if_pos c, Wd.pl_f hp]
      simp only [Option.bind_some]
      refine ih (i + 1) m (Wd.pl p _) q (by omega) (Wd.pl_ok _ _) hq ?_ ?_
      · rw [Wd.pl_val hp hx hpb, vp, S_succ]; unfold posn; rw [if_pos c]
      · rw [vq, S_succ]; unfold negn; rw [if_pos c]; omega
    · rw [if_neg c, Wd.mi_f hq]
      simp only [Option.bind_some]
      refine ih (i + 1) m p (Wd.mi q _) (by omega) hp (Wd.mi_ok _ _) ?_ ?_
      · rw [vp, S_succ]; unfold posn; rw [if_neg c]; omega
      · rw [Wd.mi_val hq hx hqb, vq, S_succ]; unfold negn; rw [if_neg c]; omega
theorem trial_true (a0 a1 a2 a3 a4 a5 a6 a7 a8 a9 a10 a11 : Int) (hb : Bk [a0, a1, a2, a3, a4, a5, a6, a7, a8, a9, a10, a11]) (k : Nat) (hk : 13 ≤ k) : ledger_Trial.f k a0 a1 a2 a3 a4 a5 a6 a7 a8 a9 a10 a11 = some (trialOf [a0, a1, a2, a3, a4, a5, a6, a7, a8, a9, a10, a11]) := by
  obtain ⟨m, rfl⟩ : ∃ m, k = 12 + 1 + m := ⟨k - 13, by omega⟩
  unfold ledger_Trial.f
  exact trial_loop _ _ _ _ _ _ _ _ _ _ _ _ hb 12 0 m (0, 0) (0, 0) (by omega) ⟨by decide, by decide⟩ ⟨by decide, by decide⟩ rfl rfl

theorem ref_loop (a0 a1 a2 a3 a4 a5 a6 a7 a8 a9 a10 a11 : Int) (hb : Bk [a0, a1, a2, a3, a4, a5, a6, a7, a8, a9, a10, a11]) (r : Nat) (hr : 13 ≤ r) : ∀ (d i : Nat) (u v : List Int), i + d = 12 → (∀ x ∈ u, Wd.in64 x) → (∀ x ∈ v, Wd.in64 x) → u.length ≤ i → v.length ≤ i → u.sum = S (fun _ => posn) [a0, a1, a2, a3, a4, a5, a6, a7, a8, a9, a10, a11] i → v.sum = -(S (fun _ => negn) [a0, a1, a2, a3, a4, a5, a6, a7, a8, a9, a10, a11] i) →
    arrearsref8_Trial.l0 (d + 1 + r) u v (i : Int) a0 a1 a2 a3 a4 a5 a6 a7 a8 a9 a10 a11 = some (trialOf [a0, a1, a2, a3, a4, a5, a6, a7, a8, a9, a10, a11]) := by
  intro d
  induction d with
  | zero =>
    intro i u v h hu hv lu lv su sv
    obtain rfl : i = 12 := by omega
    have bp := (S_le (f := fun _ => posn) (b := [a0, a1, a2, a3, a4, a5, a6, a7, a8, a9, a10, a11]) (M := 9223372036854775808) (fun j => by have := hb.get j; unfold Wd.in64 at this; unfold posn; split <;> omega) 12).1
    have bq := (S_le (f := fun _ => negn) (b := [a0, a1, a2, a3, a4, a5, a6, a7, a8, a9, a10, a11]) (M := 9223372036854775808) (fun j => by have := hb.get j; unfold Wd.in64 at this; unfold negn; split <;> omega) 12).1
    rw [show 0 + 1 + r = r + 1 by omega, arrearsref8_Trial.l0, if_neg (by omega), pl_Sum u hu (by omega) r (by omega), pl_Sum v hv (by omega) r (by omega), su, sv]
    simp only [Option.bind_some]
    unfold trialOf
    generalize S (fun _ => posn) [a0, a1, a2, a3, a4, a5, a6, a7, a8, a9, a10, a11] 12 = D at bp
    generalize S (fun _ => negn) [a0, a1, a2, a3, a4, a5, a6, a7, a8, a9, a10, a11] 12 = C at bq
    unfold pl_fits Wd.in64
    by_cases c1 : -9223372036854775808 ≤ D ∧ D ≤ 9223372036854775807
    · rw [if_pos c1]
      by_cases c2 : -9223372036854775808 ≤ -C ∧ -C ≤ 9223372036854775807
      · rw [if_pos c2]
        dsimp only
        rw [if_pos rfl, if_pos rfl]
        by_cases c3 : -C = -9223372036854775808
        · rw [if_pos c3, if_neg (by omega)]
        · rw [if_neg c3, if_pos ⟨c1, by omega⟩, w64 (by omega) (by omega), Int.neg_neg]
      · rw [if_neg c2]
        dsimp only
        rw [if_pos rfl, if_neg (by simp), if_neg (by omega)]
    · rw [if_neg c1]
      dsimp only
      rw [if_neg (by simp), if_neg (by omega)]
  | succ d ih =>
    intro i u v h hu hv lu lv su sv
    have hx := hb.get i
    have e : wrap64 ((i : Int) + 1) = ((i + 1 : Nat) : Int) := by rw [w64 (by omega) (by omega)]; omega
    have SU := Aside0.mk su
    have SV := Aside0.mk sv
    clear su sv
    rw [show d + 1 + 1 + r = (d + 1 + r) + 1 by omega, arrearsref8_Trial.l0, if_pos (by omega), if_pos (by omega), selI_nat, e]
    by_cases c : [a0, a1, a2, a3, a4, a5, a6, a7, a8, a9, a10, a11].getD i 0 > 0
    · rw [if_pos c, if_pos (by omega)]
      refine ih (i + 1) _ v (by omega) ?_ hv (by rw [List.length_append, List.length_singleton]; omega) (by omega) ?_ ?_
      · intro x hx2
        rcases List.mem_append.1 hx2 with h2 | h2
        · exact hu x h2
        · rw [List.mem_singleton.1 h2]; exact hx
      · rw [List.sum_append_int, SU.out, S_succ]; unfold posn; rw [if_pos c]; simp
      · rw [SV.out, S_succ]; unfold negn; rw [if_pos c]; omega
    · rw [if_neg c, if_pos (by omega)]
      refine ih (i + 1) u _ (by omega) hu ?_ (by omega) (by rw [List.length_append, List.length_singleton]; omega) ?_ ?_
      · intro x hx2
        rcases List.mem_append.1 hx2 with h2 | h2
        · exact hv x h2
        · rw [List.mem_singleton.1 h2]; exact hx
      · rw [SU.out, S_succ]; unfold posn; rw [if_neg c]; omega
      · rw [List.sum_append_int, SV.out, S_succ]; unfold negn; rw [if_neg c]; simp; omega
theorem ref_true (a0 a1 a2 a3 a4 a5 a6 a7 a8 a9 a10 a11 : Int) (hb : Bk [a0, a1, a2, a3, a4, a5, a6, a7, a8, a9, a10, a11]) (k : Nat) (hk : 26 ≤ k) : arrearsref8_Trial.f k a0 a1 a2 a3 a4 a5 a6 a7 a8 a9 a10 a11 = some (trialOf [a0, a1, a2, a3, a4, a5, a6, a7, a8, a9, a10, a11]) := by
  obtain ⟨r, rfl⟩ : ∃ r, k = 12 + 1 + r := ⟨k - 13, by omega⟩
  unfold arrearsref8_Trial.f
  exact ref_loop _ _ _ _ _ _ _ _ _ _ _ _ hb r (by omega) 12 0 [] [] (by omega) (fun x hx => absurd hx (List.not_mem_nil)) (fun x hx => absurd hx (List.not_mem_nil)) (by simp) (by simp) rfl rfl
end Go.Proofs.Ytmppfpdaglkhkaa.T
