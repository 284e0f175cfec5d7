/- From the Book of zeros, whatever is posted or taken back: debits equal credits, and every account is on its own side. No condition beyond the lists' bulk. -/
import Derived.Test.YtmppfpdaglkhkaaDoorLx5
import Derived.Test.YtmppfpdaglkhkaaDoorLLedE
import Derived.Test.YtmppfpdaglkhkaaDoorLLedB
import Derived.Test.YtmppfpdaglkhkaaDoorLLedC
import Derived.Test.YtmppfpdaglkhkaaDoorLLedS
import Derived.Test.YtmppfpdaglkhkaaDoorLOpen
namespace Go.Proofs.YtmppfpdaglkhkaaDoor.L
open Go.RowKit Go.Proofs.YtmppfpdaglkhkaaDoorW.PrintWords Go.Proofs.YtmppfpdaglkhkaaDoorW.PrintLast
set_option linter.unusedVariables false
set_option linter.unusedSimpArgs false

def LedgerBalanced_Pure : Prop := ∀ (l0 : List (List (S43))), ((∀ x_ ∈ l0, (∀ x__ ∈ x_, WF43 1048576 x__) ∧ x_.length * 24 ≤ 140737488351232 ∧ x_.length ≤ 1048576) ∧ l0.length * 24 ≤ 140737488351232 ∧ l0.length ≤ 1048576) → ∃ k, arrearslaw8_LedgerBalanced.f k l0 = some true
def D12 (f : Nat → Int) : Int := f 0 + f 1 + f 2 + f 3 + f 4 + f 5 + f 6 + f 7 + f 8 + f 9 + f 10 + f 11
theorem D12_add (f g : Nat → Int) : D12 (fun i => f i + g i) = D12 f + D12 g := by unfold D12; dsimp only; omega
theorem D12_sub (f g : Nat → Int) : D12 (fun i => f i - g i) = D12 f - D12 g := by unfold D12; dsimp only; omega
theorem D12_pick (a x : Int) (h0 : 0 ≤ a) (h1 : a < 12) : D12 (fun i => if a = (i : Int) then x else 0) = x := by
  obtain ⟨n, rfl⟩ := Int.eq_ofNat_of_zero_le h0
  have hn : n < 12 := by omega
  rcases ledger_Post.twelve hn with rfl | rfl | rfl | rfl | rfl | rfl | rfl | rfl | rfl | rfl | rfl | rfl <;> simp [D12]
theorem D12_amt (e : S43) (h : ledger_Post.err e = 0) : D12 (fun i => ledger_Post.amt i e) = 0 := by
  have h2 := ledger_Post.err_zero h
  unfold ledger_Post.amt
  rw [D12_sub (fun i => if e.f0 = (i : Int) then e.f2 else 0) (fun i => if e.f1 = (i : Int) then e.f2 else 0), D12_pick _ _ h2.1.1 h2.1.2, D12_pick _ _ h2.2.1.1 h2.2.1.2]
  omega
theorem D12_sum : ∀ l : List S43, (∀ e ∈ l, ledger_Post.err e = 0) → D12 (fun i => (l.map (ledger_Post.amt i)).sum) = 0
  | [], _ => rfl
  | e :: l, h => by
    have h1 := D12_sum l (fun x hx => h x (by simp [hx]))
    have h2 := D12_amt e (h e (by simp))
    simp only [List.map_cons, List.sum_cons]
    rw [D12_add (fun i => ledger_Post.amt i e) (fun i => (l.map (ledger_Post.amt i)).sum)]
    omega
theorem D12_S (f : Nat → Int → Int) (b : List Int) : S f b 12 = D12 (fun j => f j (b.getD j 0)) := by
  unfold S D12
  rw [show List.range 12 = [0, 1, 2, 3, 4, 5, 6, 7, 8, 9, 10, 11] from rfl]
  simp only [List.map_cons, List.sum_cons, List.map_nil, List.sum_nil]
  omega
def Inv (b : List Int) : Prop := Bk b ∧ osB b = true ∧ D12 (fun i => b.getD i 0) = 0
theorem Inv.step {b : List Int} (h : Inv b) (l : List S43) : Inv (ledger_Post.spec b l).1 := by
  rcases spec_cases b l with ⟨hg, e⟩ | ⟨_, e, _⟩
  · rw [e]
    refine ⟨after_bk hg, osB_good hg, ?_⟩
    have e1 : D12 (fun i => (after b l).getD i 0) = D12 (fun i => b.getD i 0 + (l.map (ledger_Post.amt i)).sum) := by
      unfold D12; dsimp only
      rw [after_get b l (i := 0) (by omega), after_get b l (i := 1) (by omega), after_get b l (i := 2) (by omega), after_get b l (i := 3) (by omega), after_get b l (i := 4) (by omega), after_get b l (i := 5) (by omega), after_get b l (i := 6) (by omega), after_get b l (i := 7) (by omega), after_get b l (i := 8) (by omega), after_get b l (i := 9) (by omega), after_get b l (i := 10) (by omega), after_get b l (i := 11) (by omega)]
      rfl
    dsimp only
    rw [e1, D12_add (fun i => b.getD i 0) (fun i => (l.map (ledger_Post.amt i)).sum), h.2.2, D12_sum l (ledger_Post.bad_zero hg.1)]
    rfl
  · rw [e]; exact h
theorem trial_eq {b : List Int} (h : Inv b) : (trialOf b).2.2 = true ∧ (trialOf b).1 = (trialOf b).2.1 ∨ (trialOf b).2.2 = false ∧ (trialOf b).1 = 0 ∧ (trialOf b).2.1 = 0 := by
  have e : S (fun _ => posn) b 12 - S (fun _ => negn) b 12 = 0 := by
    rw [D12_S, D12_S, ← D12_sub]
    have : (fun i => posn (b.getD i 0) - negn (b.getD i 0)) = fun i => b.getD i 0 := by
      funext i; unfold posn negn; split <;> omega
    rw [this]; exact h.2.2
  unfold trialOf
  split
  · left; exact ⟨rfl, by dsimp only; omega⟩
  · right; exact ⟨rfl, rfl, rfl⟩
theorem bal_l1 (x0 : List (List S43)) (x4 : Int) {b : List Int} (h : Inv b) (K : Nat) (hK : 40 ≤ K) : ∀ (d i : Nat) (w : Int × Int), i + d = 12 →
    w.1 * 4294967296 + w.2 = S (fun _ x => x) b i → -((i : Int) * 2147483649) ≤ w.1 → w.1 ≤ (i : Int) * 2147483649 → 0 ≤ w.2 → w.2 ≤ (i : Int) * 4294967296 →
    arrearslaw8_LedgerBalanced.l1 (d + 1 + K) x0 x4 (i : Int) (b.getD 0 0) (b.getD 1 0) (b.getD 2 0) (b.getD 3 0) (b.getD 4 0) (b.getD 5 0) (b.getD 6 0) (b.getD 7 0) (b.getD 8 0) (b.getD 9 0) (b.getD 10 0) (b.getD 11 0) w.1 w.2 = arrearslaw8_LedgerBalanced.l0 K x0 (wrap64 (x4 + 1)) (b.getD 0 0) (b.getD 1 0) (b.getD 2 0) (b.getD 3 0) (b.getD 4 0) (b.getD 5 0) (b.getD 6 0) (b.getD 7 0) (b.getD 8 0) (b.getD 9 0) (b.getD 10 0) (b.getD 11 0) := by
  have hl := post_list_eq h.1.1
  have hb' : Bk [b.getD 0 0, b.getD 1 0, b.getD 2 0, b.getD 3 0, b.getD 4 0, b.getD 5 0, b.getD 6 0, b.getD 7 0, b.getD 8 0, b.getD 9 0, b.getD 10 0, b.getD 11 0] := by rw [hl]; exact h.1
  intro d
  induction d with
  | zero =>
    intro i w hi w1 w2 w3 w4 w5
    obtain rfl : i = 12 := by omega
    rw [D12_S, h.2.2] at w1
    rw [show 0 + 1 + K = K + 1 by omega, arrearslaw8_LedgerBalanced.l1, if_neg (by omega), trial_true _ _ _ _ _ _ _ _ _ _ _ _ hb' K (by omega), nothing_true (by omega) (by omega) w4 (by omega) w1, own_true _ _ _ _ _ _ _ _ _ _ _ _ K (by omega), hl, h.2.1]
    simp only [Option.bind_some, if_true]
    rcases trial_eq h with ⟨t1, t2⟩ | ⟨t1, t2, t3⟩
    · rw [if_pos t1, if_pos t2]
    · rw [if_neg (by rw [t1]; simp), if_pos t2, if_pos t3]
  | succ d ih =>
    intro i w hi w1 w2 w3 w4 w5
    have hx := h.1.get i
    have e : wrap64 ((i : Int) + 1) = ((i + 1 : Nat) : Int) := by rw [w64 (by omega) (by omega)]; omega
    have W1 := Aside0.mk w1
    clear w1
    rw [show d + 1 + 1 + K = (d + 1 + K) + 1 by omega, arrearslaw8_LedgerBalanced.l1, if_pos (by omega), if_pos (by omega), hl, selI_nat, e, wplus (by omega) (by omega) w4 (by omega) hx]
    simp only [Option.bind_some]
    refine ih (i + 1) (w.1 + b.getD i 0 / 4294967296, w.2 + b.getD i 0 % 4294967296) (by omega) ?_ ?_ ?_ ?_ ?_
    · rw [S_succ, ← W1.out]; dsimp only; omega
    · dsimp only; omega
    · dsimp only; omega
    · dsimp only; omega
    · dsimp only; omega
theorem same_getD {b : List Int} {c : List Int} (h : c = b) (k : Nat) (hk : 14 ≤ k) : arrearslaw8_same.f k (b.getD 0 0) (b.getD 1 0) (b.getD 2 0) (b.getD 3 0) (b.getD 4 0) (b.getD 5 0) (b.getD 6 0) (b.getD 7 0) (b.getD 8 0) (b.getD 9 0) (b.getD 10 0) (b.getD 11 0) (c.getD 0 0) (c.getD 1 0) (c.getD 2 0) (c.getD 3 0) (c.getD 4 0) (c.getD 5 0) (c.getD 6 0) (c.getD 7 0) (c.getD 8 0) (c.getD 9 0) (c.getD 10 0) (c.getD 11 0) = some true := by
  subst h; exact same_true k hk _ _ _ _ _ _ _ _ _ _ _ _
theorem bal_j1 (x0 : List (List S43)) (x4 : Int) {b : List Int} (h : Inv b) (K : Nat) (hK : 40 ≤ K) : arrearslaw8_LedgerBalanced.j1 (12 + 1 + K + 1) x0 x4 false (b.getD 0 0) (b.getD 1 0) (b.getD 2 0) (b.getD 3 0) (b.getD 4 0) (b.getD 5 0) (b.getD 6 0) (b.getD 7 0) (b.getD 8 0) (b.getD 9 0) (b.getD 10 0) (b.getD 11 0) = arrearslaw8_LedgerBalanced.l0 K x0 (wrap64 (x4 + 1)) (b.getD 0 0) (b.getD 1 0) (b.getD 2 0) (b.getD 3 0) (b.getD 4 0) (b.getD 5 0) (b.getD 6 0) (b.getD 7 0) (b.getD 8 0) (b.getD 9 0) (b.getD 10 0) (b.getD 11 0) := by
  rw [arrearslaw8_LedgerBalanced.j1, if_neg (by simp)]
  exact bal_l1 x0 x4 h K hK 12 0 (0, 0) (by omega) rfl (by decide) (by decide) (by decide) (by decide)
theorem bal_j3 (x0 : List (List S43)) (x4 : Int) {b : List Int} (h : Inv b) (K : Nat) (hK : 40 ≤ K) : arrearslaw8_LedgerBalanced.j3 (12 + 1 + K + 1) x0 x4 false (b.getD 0 0) (b.getD 1 0) (b.getD 2 0) (b.getD 3 0) (b.getD 4 0) (b.getD 5 0) (b.getD 6 0) (b.getD 7 0) (b.getD 8 0) (b.getD 9 0) (b.getD 10 0) (b.getD 11 0) = arrearslaw8_LedgerBalanced.l0 K x0 (wrap64 (x4 + 1)) (b.getD 0 0) (b.getD 1 0) (b.getD 2 0) (b.getD 3 0) (b.getD 4 0) (b.getD 5 0) (b.getD 6 0) (b.getD 7 0) (b.getD 8 0) (b.getD 9 0) (b.getD 10 0) (b.getD 11 0) := by
  rw [arrearslaw8_LedgerBalanced.j3, if_neg (by simp)]
  exact bal_l1 x0 x4 h K hK 12 0 (0, 0) (by omega) rfl (by decide) (by decide) (by decide) (by decide)
theorem rd_row (x0 : List (List S43)) (i : Nat) (h : i < x0.length) : rd_L6 x0 (i : Int) = x0[i] := by
  unfold rd_L6
  rw [Int.toNat_natCast, List.getD_eq_getElem?_getD, List.getElem?_eq_getElem h]; rfl
theorem bal_l0 (x0 : List (List S43)) (hx : ∀ l ∈ x0, Es l ∧ l.length ≤ 1048576) (hl0 : x0.length ≤ 1048576) (R : Nat) (hR : 1048700 ≤ R) : ∀ (d i : Nat) (b : List Int), i + d = x0.length → Inv b →
    arrearslaw8_LedgerBalanced.l0 (15 * d + 1 + R) x0 (i : Int) (b.getD 0 0) (b.getD 1 0) (b.getD 2 0) (b.getD 3 0) (b.getD 4 0) (b.getD 5 0) (b.getD 6 0) (b.getD 7 0) (b.getD 8 0) (b.getD 9 0) (b.getD 10 0) (b.getD 11 0) = some true := by
  intro d
  induction d with
  | zero =>
    intro i b hi h
    rw [show 15 * 0 + 1 + R = R + 1 by omega, arrearslaw8_LedgerBalanced.l0, if_neg (by omega)]
  | succ d ih =>
    intro i b hi h
    have e : wrap64 ((i : Int) + 1) = ((i + 1 : Nat) : Int) := by rw [w64 (by omega) (by omega)]; omega
    rw [show 15 * (d + 1) + 1 + R = (12 + 1 + (15 * d + 1 + R) + 1) + 1 by omega, arrearslaw8_LedgerBalanced.l0, if_pos (by omega), if_pos (by omega)]
    by_cases c : Int.tmod (i : Int) 3 = 2
    · have h0 : i ≠ 0 := fun h => by subst h; simp at c
      have e2 : wrap64 ((i : Int) - 1) = ((i - 1 : Nat) : Int) := by rw [w64 (by omega) (by omega)]; omega
      have hm := hx x0[i - 1] (List.getElem_mem _)
      rw [if_pos c, e2, if_pos (by omega), if_pos (by omega), rd_row x0 (i - 1) (by omega), reverse_true _ hm.2 _ (by omega)]
      simp only [Option.bind_some]
      rw [post_l h.1 (es_rev hm.1)]
      simp only [Option.bind_some, tup]
      generalize rev x0[i - 1] = l
      have hs := h.step l
      have go : arrearslaw8_LedgerBalanced.j1 (12 + 1 + (15 * d + 1 + R) + 1) x0 (i : Int) false ((ledger_Post.spec b l).1.getD 0 0) ((ledger_Post.spec b l).1.getD 1 0) ((ledger_Post.spec b l).1.getD 2 0) ((ledger_Post.spec b l).1.getD 3 0) ((ledger_Post.spec b l).1.getD 4 0) ((ledger_Post.spec b l).1.getD 5 0) ((ledger_Post.spec b l).1.getD 6 0) ((ledger_Post.spec b l).1.getD 7 0) ((ledger_Post.spec b l).1.getD 8 0) ((ledger_Post.spec b l).1.getD 9 0) ((ledger_Post.spec b l).1.getD 10 0) ((ledger_Post.spec b l).1.getD 11 0) = some true := by
        rw [bal_j1 x0 (i : Int) hs (15 * d + 1 + R) (by omega), e]
        exact ih (i + 1) _ (by omega) hs
      rcases spec_cases b l with ⟨_, es⟩ | ⟨_, eb, ne, _⟩
      · rw [if_pos (by rw [es])]; exact go
      · rw [if_neg ne, same_getD eb _ (by omega)]
        simp only [Option.bind_some, Bool.not_true]
        exact go
    · have hm := hx x0[i] (List.getElem_mem _)
      rw [if_neg c, rd_row x0 i (by omega), post_l h.1 hm.1]
      simp only [Option.bind_some, tup]
      generalize x0[i] = l
      have hs := h.step l
      have go : arrearslaw8_LedgerBalanced.j3 (12 + 1 + (15 * d + 1 + R) + 1) x0 (i : Int) false ((ledger_Post.spec b l).1.getD 0 0) ((ledger_Post.spec b l).1.getD 1 0) ((ledger_Post.spec b l).1.getD 2 0) ((ledger_Post.spec b l).1.getD 3 0) ((ledger_Post.spec b l).1.getD 4 0) ((ledger_Post.spec b l).1.getD 5 0) ((ledger_Post.spec b l).1.getD 6 0) ((ledger_Post.spec b l).1.getD 7 0) ((ledger_Post.spec b l).1.getD 8 0) ((ledger_Post.spec b l).1.getD 9 0) ((ledger_Post.spec b l).1.getD 10 0) ((ledger_Post.spec b l).1.getD 11 0) = some true := by
        rw [bal_j3 x0 (i : Int) hs (15 * d + 1 + R) (by omega), e]
        exact ih (i + 1) _ (by omega) hs
      rcases spec_cases b l with ⟨_, es⟩ | ⟨_, eb, ne, _⟩
      · rw [if_pos (by rw [es])]; exact go
      · rw [if_neg ne, same_getD eb _ (by omega)]
        simp only [Option.bind_some, Bool.not_true]
        exact go
theorem LedgerBalanced_pure : LedgerBalanced_Pure := by
  intro x0 h
  obtain ⟨R, hR⟩ : ∃ R, R = 1048700 := ⟨_, rfl⟩
  refine ⟨15 * x0.length + 1 + R, ?_⟩
  unfold arrearslaw8_LedgerBalanced.f
  rw [posts_true]
  simp only [Option.bind_some, if_true]
  exact bal_l0 x0 (fun l hl => ⟨es_of (h.1 l hl).1, (h.1 l hl).2.2⟩) h.2.2 R (by omega) x0.length 0 [0, 0, 0, 0, 0, 0, 0, 0, 0, 0, 0, 0] (by omega)
    ⟨⟨rfl, by decide⟩, by decide, by decide⟩
end Go.Proofs.YtmppfpdaglkhkaaDoor.L
