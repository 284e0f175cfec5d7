/- The Total in parts is the Total; of books that balance it balances. No condition beyond the lists' bulk. -/
import Derived.Test.YtmppfpdaglkhkaaUx2
import Derived.Test.YtmppfpdaglkhkaaULedW
import Derived.Test.YtmppfpdaglkhkaaUOpen
namespace Go.Proofs.Ytmppfpdaglkhkaa.U
open Go.RowKit Go.Proofs.YtmppfpdaglkhkaaW.PrintWords Go.Proofs.YtmppfpdaglkhkaaW.PrintLast
set_option linter.unusedVariables false
set_option linter.unusedSimpArgs false
theorem wplus {h l x : Int} (h0 : -1099511627776 ≤ h) (h1 : h ≤ 1099511627776) (l0 : 0 ≤ l) (l1 : l ≤ 1099511627776) (hx : Wd.in64 x) : arrearslaw8_plus.f h l x = some (h + x / 4294967296, l + x % 4294967296) := by
  unfold Wd.in64 at hx
  unfold arrearslaw8_plus.f
  rw [w64 (x := x / 4294967296 * 4294967296) (by omega) (by omega), w64 (x := x - x / 4294967296 * 4294967296) (by omega) (by omega), w64 (by omega) (by omega), w64 (by omega) (by omega)]
  congr 2
  omega
theorem nothing_is {h l : Int} (h0 : -1099511627776 ≤ h) (h1 : h ≤ 1099511627776) (l0 : 0 ≤ l) (l1 : l ≤ 1099511627776) : arrearslaw8_nothing.f h l = some (decide (h * 4294967296 + l = 0)) := by
  unfold arrearslaw8_nothing.f
  rw [Int.tmod_eq_emod_of_nonneg l0]
  by_cases c : l % 4294967296 = 0
  · rw [if_pos c, w64 (by omega) (by omega)]
    congr 1
    rw [Bool.eq_iff_iff, beq_iff_eq, decide_eq_true_eq]
    omega
  · rw [if_neg c, decide_eq_false (by omega)]
theorem twelve {i : Nat} (h : i < 12) : i = 0 ∨ i = 1 ∨ i = 2 ∨ i = 3 ∨ i = 4 ∨ i = 5 ∨ i = 6 ∨ i = 7 ∨ i = 8 ∨ i = 9 ∨ i = 10 ∨ i = 11 := by omega
theorem nets_mk (f : Nat → Int) (i : Nat) (h : i < 12) : (nets (⟨⟨f 0, f 1, f 2, f 3, f 4, f 5, f 6, f 7, f 8, f 9, f 10, f 11⟩⟩ : S32)).getD i 0 = f i := by
  rcases twelve h with rfl | rfl | rfl | rfl | rfl | rfl | rfl | rfl | rfl | rfl | rfl | rfl <;> rfl
theorem nets_mk_mem (f : Nat → Int) (x : Int) (h : x ∈ nets (⟨⟨f 0, f 1, f 2, f 3, f 4, f 5, f 6, f 7, f 8, f 9, f 10, f 11⟩⟩ : S32)) : ∃ i, i < 12 ∧ x = f i := by
  unfold nets at h
  simp only [List.mem_cons, List.not_mem_nil, or_false] at h
  rcases h with h | h | h | h | h | h | h | h | h | h | h | h
  · exact ⟨0, by omega, h⟩
  · exact ⟨1, by omega, h⟩
  · exact ⟨2, by omega, h⟩
  · exact ⟨3, by omega, h⟩
  · exact ⟨4, by omega, h⟩
  · exact ⟨5, by omega, h⟩
  · exact ⟨6, by omega, h⟩
  · exact ⟨7, by omega, h⟩
  · exact ⟨8, by omega, h⟩
  · exact ⟨9, by omega, h⟩
  · exact ⟨10, by omega, h⟩
  · exact ⟨11, by omega, h⟩
set_option maxRecDepth 10000 in
theorem same_true (k : Nat) (hk : 14 ≤ k) (a0 a1 a2 a3 a4 a5 a6 a7 a8 a9 a10 a11 : Int) : arrearslaw8_same.f k a0 a1 a2 a3 a4 a5 a6 a7 a8 a9 a10 a11 a0 a1 a2 a3 a4 a5 a6 a7 a8 a9 a10 a11 = some true := by
  obtain ⟨m, rfl⟩ : ∃ m, k = m + 14 := ⟨k - 14, by omega⟩
  simp [arrearslaw8_same.f, arrearslaw8_same.l0, wrap64]
def SS (f : Nat → Int) (i : Nat) : Int := ((List.range i).map f).sum
theorem SS_succ (f : Nat → Int) (i : Nat) : SS f (i + 1) = SS f i + f i := by
  unfold SS
  rw [List.range_succ, List.map_append, List.sum_append_int]; simp
theorem SS_add (f g : Nat → Int) : ∀ i, SS (fun j => f j + g j) i = SS f i + SS g i
  | 0 => rfl
  | i + 1 => by rw [SS_succ, SS_succ, SS_succ, SS_add f g i]; omega
theorem SS_congr {f g : Nat → Int} : ∀ {i : Nat}, (∀ j, j < i → f j = g j) → SS f i = SS g i
  | 0, _ => rfl
  | i + 1, h => by rw [SS_succ, SS_succ, SS_congr (i := i) (fun j hj => h j (by omega)), h i (by omega)]
theorem sel12 (f : Nat → Int) (i : Nat) (h : i < 12) : selI [f 0, f 1, f 2, f 3, f 4, f 5, f 6, f 7, f 8, f 9, f 10, f 11] (i : Int) = f i := by
  rcases twelve h with rfl | rfl | rfl | rfl | rfl | rfl | rfl | rfl | rfl | rfl | rfl | rfl <;> rfl
theorem au_l2 (f : Nat → Int) (hf : ∀ i, i < 12 → Wd.in64 (f i)) (K : Nat) : ∀ (d i : Nat) (w : Int × Int), i + d = 12 →
    w.1 * 4294967296 + w.2 = SS f i → -((i : Int) * 2147483649) ≤ w.1 → w.1 ≤ (i : Int) * 2147483649 → 0 ≤ w.2 → w.2 ≤ (i : Int) * 4294967296 →
    arrearslaw8_LedgerAddsUp.l2 (d + 1 + K) (i : Int) (f 0) (f 1) (f 2) (f 3) (f 4) (f 5) (f 6) (f 7) (f 8) (f 9) (f 10) (f 11) w.1 w.2 = some (decide (SS f 12 = 0)) := by
  intro d
  induction d with
  | zero =>
    intro i w hi w1 w2 w3 w4 w5
    obtain rfl : i = 12 := by omega
    rw [show 0 + 1 + K = K + 1 by omega, arrearslaw8_LedgerAddsUp.l2, if_neg (by omega), nothing_is (by omega) (by omega) w4 (by omega), w1]
    rfl
  | succ d ih =>
    intro i w hi w1 w2 w3 w4 w5
    have hx := hf i (by omega)
    have e : wrap64 ((i : Int) + 1) = ((i + 1 : Nat) : Int) := by rw [w64 (by omega) (by omega)]; omega
    have W1 := Aside0.mk w1
    clear w1
    rw [show d + 1 + 1 + K = (d + 1 + K) + 1 by omega, arrearslaw8_LedgerAddsUp.l2, if_pos (by omega), if_pos (by omega), sel12 f i (by omega), e, wplus (by omega) (by omega) w4 (by omega) hx]
    simp only [Option.bind_some]
    unfold Wd.in64 at hx
    refine ih (i + 1) (w.1 + f i / 4294967296, w.2 + f i % 4294967296) (by omega) ?_ ?_ ?_ ?_ ?_
    · rw [SS_succ, ← W1.out]; dsimp only; omega
    · dsimp only; omega
    · dsimp only; omega
    · dsimp only; omega
    · dsimp only; omega
theorem au_l1 (l : List S32) (hl : Bs l) (x1 : Int) (even : Bool) (j : Nat) (hj : j < l.length) (hn : l.length ≤ 1048576) (K : Nat) : ∀ (d i : Nat) (w : Int × Int), i + d = 12 →
    w.1 * 4294967296 + w.2 = SS (fun i => (nets l[j]).getD i 0) i → -((i : Int) * 2147483649) ≤ w.1 → w.1 ≤ (i : Int) * 2147483649 → 0 ≤ w.2 → w.2 ≤ (i : Int) * 4294967296 →
    arrearslaw8_LedgerAddsUp.l1 (d + 1 + K) l x1 even (j : Int) (i : Int) w.1 w.2 = arrearslaw8_LedgerAddsUp.l0 K l x1 (even && decide (SS (fun i => (nets l[j]).getD i 0) 12 = 0)) ((j + 1 : Nat) : Int) := by
  intro d
  induction d with
  | zero =>
    intro i w hi w1 w2 w3 w4 w5
    obtain rfl : i = 12 := by omega
    have ej : wrap64 ((j : Int) + 1) = ((j + 1 : Nat) : Int) := by rw [w64 (by omega) (by omega)]; omega
    rw [show 0 + 1 + K = K + 1 by omega, arrearslaw8_LedgerAddsUp.l1, if_neg (by omega), nothing_is (by omega) (by omega) w4 (by omega), w1, ej]
    cases even <;> simp
  | succ d ih =>
    intro i w hi w1 w2 w3 w4 w5
    have hx := nets_in (hl _ (List.getElem_mem hj)) i
    have e : wrap64 ((i : Int) + 1) = ((i + 1 : Nat) : Int) := by rw [w64 (by omega) (by omega)]; omega
    have es : selI (nets (rd_T32 l (j : Int))) (i : Int) = (nets l[j]).getD i 0 := by rw [selI_nat, rd_at l j hj]
    have W1 := Aside0.mk w1
    clear w1
    rw [show d + 1 + 1 + K = (d + 1 + K) + 1 by omega, arrearslaw8_LedgerAddsUp.l1, if_pos (by omega), if_pos (by omega), if_pos (by omega), if_pos (by omega)]
    refine (congrArg (fun z => Option.bind (arrearslaw8_plus.f w.1 w.2 z) _) es).trans ?_
    rw [e, wplus (by omega) (by omega) w4 (by omega) hx]
    simp only [Option.bind_some]
    unfold Wd.in64 at hx
    refine ih (i + 1) (w.1 + (nets l[j]).getD i 0 / 4294967296, w.2 + (nets l[j]).getD i 0 % 4294967296) (by omega) ?_ ?_ ?_ ?_ ?_
    · rw [SS_succ, ← W1.out]; dsimp only; omega
    · dsimp only; omega
    · dsimp only; omega
    · dsimp only; omega
    · dsimp only; omega
theorem au_j6 (l : List S32) (even : Bool) (he : even = true → SS (col l) 12 = 0) (K : Nat) : arrearslaw8_LedgerAddsUp.j6 (12 + 1 + K + 2) even (okB l) (St l 0) (St l 1) (St l 2) (St l 3) (St l 4) (St l 5) (St l 6) (St l 7) (St l 8) (St l 9) (St l 10) (St l 11) = some true := by
  rw [show 12 + 1 + K + 2 = (12 + 1 + K + 1) + 1 by omega, arrearslaw8_LedgerAddsUp.j6]
  cases ho : okB l with
  | false => rw [if_neg (by simp), arrearslaw8_LedgerAddsUp.j7, if_pos rfl]
  | true =>
    rw [if_pos rfl]
    cases even with
    | false => rw [arrearslaw8_LedgerAddsUp.j7, if_pos (by rfl)]
    | true =>
      have hs : ∀ i, i < 12 → Wd.in64 (St l i) := fun i hi => by unfold St; rw [ho, if_pos rfl]; exact okB_in ho i hi
      have e0 : SS (St l) 12 = 0 := by
        rw [← he rfl]
        exact SS_congr (fun j _ => by unfold St; rw [ho, if_pos rfl])
      rw [arrearslaw8_LedgerAddsUp.j7, if_neg (by simp)]
      refine (au_l2 (St l) hs K 12 0 (0, 0) (by omega) rfl (by decide) (by decide) (by decide) (by decide)).trans ?_
      rw [decide_eq_true e0]
theorem col_app (l m : List S32) (i : Nat) : col (l ++ m) i = col l i + col m i := by
  unfold col colL
  rw [List.map_append, List.sum_append_int]
theorem col_one (b : S32) (i : Nat) : col [b] i = (nets b).getD i 0 := by unfold col colL; simp
theorem Bs.sub {l m : List S32} (h : Bs l) (hs : ∀ b ∈ m, b ∈ l) : Bs m := fun b hb => h b (hs b hb)
theorem au_j5 (l : List S32) (hn : l.length ≤ 300) (a : Nat) (even rk : Bool) (he : even = true → SS (col l) 12 = 0) (hk : rk = true → okB (l.take a) = true ∧ okB (l.drop a) = true) (K : Nat) (hK : 4000 ≤ K) :
    arrearslaw8_LedgerAddsUp.j5 (12 + 1 + K + 3) even (okB l) rk (St l 0) (St l 1) (St l 2) (St l 3) (St l 4) (St l 5) (St l 6) (St l 7) (St l 8) (St l 9) (St l 10) (St l 11) (St (l.take a) 0) (St (l.take a) 1) (St (l.take a) 2) (St (l.take a) 3) (St (l.take a) 4) (St (l.take a) 5) (St (l.take a) 6) (St (l.take a) 7) (St (l.take a) 8) (St (l.take a) 9) (St (l.take a) 10) (St (l.take a) 11) (St (l.drop a) 0) (St (l.drop a) 1) (St (l.drop a) 2) (St (l.drop a) 3) (St (l.drop a) 4) (St (l.drop a) 5) (St (l.drop a) 6) (St (l.drop a) 7) (St (l.drop a) 8) (St (l.drop a) 9) (St (l.drop a) 10) (St (l.drop a) 11) = some true := by
  rw [show 12 + 1 + K + 3 = (12 + 1 + K + 2) + 1 by omega, arrearslaw8_LedgerAddsUp.j5]
  cases rk with
  | false => rw [if_neg (by simp)]; exact au_j6 l even he K
  | true =>
    obtain ⟨h1, h2⟩ := hk rfl
    have s1 : ∀ i, St (l.take a) i = col (l.take a) i := fun i => by unfold St; rw [h1, if_pos rfl]
    have s2 : ∀ i, St (l.drop a) i = col (l.drop a) i := fun i => by unfold St; rw [h2, if_pos rfl]
    have hb : Bs [(⟨⟨St (l.take a) 0, St (l.take a) 1, St (l.take a) 2, St (l.take a) 3, St (l.take a) 4, St (l.take a) 5, St (l.take a) 6, St (l.take a) 7, St (l.take a) 8, St (l.take a) 9, St (l.take a) 10, St (l.take a) 11⟩⟩ : S32), (⟨⟨St (l.drop a) 0, St (l.drop a) 1, St (l.drop a) 2, St (l.drop a) 3, St (l.drop a) 4, St (l.drop a) 5, St (l.drop a) 6, St (l.drop a) 7, St (l.drop a) 8, St (l.drop a) 9, St (l.drop a) 10, St (l.drop a) 11⟩⟩ : S32)] := by
      intro b hb x hx
      simp only [List.mem_cons, List.not_mem_nil, or_false] at hb
      rcases hb with rfl | rfl
      · obtain ⟨i, hi, rfl⟩ := nets_mk_mem (St (l.take a)) x hx
        rw [s1]; exact okB_in h1 i hi
      · obtain ⟨i, hi, rfl⟩ := nets_mk_mem (St (l.drop a)) x hx
        rw [s2]; exact okB_in h2 i hi
    have et : totalOf [(⟨⟨St (l.take a) 0, St (l.take a) 1, St (l.take a) 2, St (l.take a) 3, St (l.take a) 4, St (l.take a) 5, St (l.take a) 6, St (l.take a) 7, St (l.take a) 8, St (l.take a) 9, St (l.take a) 10, St (l.take a) 11⟩⟩ : S32), (⟨⟨St (l.drop a) 0, St (l.drop a) 1, St (l.drop a) 2, St (l.drop a) 3, St (l.drop a) 4, St (l.drop a) 5, St (l.drop a) 6, St (l.drop a) 7, St (l.drop a) 8, St (l.drop a) 9, St (l.drop a) 10, St (l.drop a) 11⟩⟩ : S32)] = totalOf l := by
      refine total_congr (fun i hi => ?_)
      have e1 := col_app [(⟨⟨St (l.take a) 0, St (l.take a) 1, St (l.take a) 2, St (l.take a) 3, St (l.take a) 4, St (l.take a) 5, St (l.take a) 6, St (l.take a) 7, St (l.take a) 8, St (l.take a) 9, St (l.take a) 10, St (l.take a) 11⟩⟩ : S32)] [(⟨⟨St (l.drop a) 0, St (l.drop a) 1, St (l.drop a) 2, St (l.drop a) 3, St (l.drop a) 4, St (l.drop a) 5, St (l.drop a) 6, St (l.drop a) 7, St (l.drop a) 8, St (l.drop a) 9, St (l.drop a) 10, St (l.drop a) 11⟩⟩ : S32)] i
      have e2 := col_app (l.take a) (l.drop a) i
      rw [List.take_append_drop] at e2
      rw [col_one, col_one, nets_mk _ i hi, nets_mk _ i hi, s1 i, s2 i, ← e2] at e1
      exact e1
    rw [if_pos rfl, total_true _ hb (by simp) _ (by simp; omega), et]
    simp only [Option.bind_some, totalOf, tup13]
    rw [if_neg (by simp), same_true _ (by omega)]
    simp only [Option.bind_some, if_true]
    exact au_j6 l even he K
theorem au_one (b : S32) (h : ∀ x ∈ nets b, Wd.in64 x) : totalOf [b] = (b.f0.f0, b.f0.f1, b.f0.f2, b.f0.f3, b.f0.f4, b.f0.f5, b.f0.f6, b.f0.f7, b.f0.f8, b.f0.f9, b.f0.f10, b.f0.f11, true) := by
  rw [total_ok (okB_true (fun i _ => by rw [col_one]; exact nets_in h i))]
  simp [part, col_one, nets]
theorem au_l0 (l : List S32) (hl : Bs l) (hn : l.length ≤ 300) (x1 : Int) (hx0 : 0 ≤ x1) (hx1 : x1 ≤ (l.length : Int)) (R : Nat) (hR : 5000 ≤ R) : ∀ (d j : Nat) (even : Bool), j + d = l.length → (even = true → SS (col (l.take j)) 12 = 0) →
    arrearslaw8_LedgerAddsUp.l0 (15 * d + 1 + R) l x1 even (j : Int) = some true := by
  intro d
  induction d with
  | zero =>
    intro j even h he
    obtain rfl : j = l.length := by omega
    rw [List.take_of_length_le (by omega)] at he
    obtain ⟨a, rfl⟩ := Int.eq_ofNat_of_zero_le hx0
    have h1 : Bs (l.take a) := hl.sub (fun b hb => List.mem_of_mem_take hb)
    have h2 : Bs (l.drop a) := hl.sub (fun b hb => List.mem_of_mem_drop hb)
    obtain ⟨K, rfl⟩ : ∃ K, R = 12 + 1 + K + 3 := ⟨R - 16, by omega⟩
    rw [show 15 * 0 + 1 + (12 + 1 + K + 3) = (12 + 1 + K + 3) + 1 by omega, arrearslaw8_LedgerAddsUp.l0, if_neg (by omega), total_true l hl (by omega) _ (by omega)]
    simp only [Option.bind_some]
    rw [if_pos hx0, if_pos hx1, Int.toNat_natCast, total_true _ h1 (by rw [List.length_take]; omega) _ (by rw [List.length_take]; omega), total_true _ h2 (by rw [List.length_drop]; omega) _ (by rw [List.length_drop]; omega)]
    simp only [Option.bind_some, totalOf, tup13]
    cases ht : okB (l.take a) with
    | true => rw [if_pos rfl]; exact au_j5 l hn a even _ he (fun h => ⟨ht, h⟩) K (by omega)
    | false => rw [if_neg (by simp)]; exact au_j5 l hn a even false he (fun h => by simp at h) K (by omega)
  | succ d ih =>
    intro j even h he
    have hj : j < l.length := by omega
    have ej : wrap64 ((j : Int) + 1) = ((j + 1 : Nat) : Int) := by rw [w64 (by omega) (by omega)]; omega
    have e1 : (l.take (j + 1)).drop j = [l[j]] := by rw [List.take_succ_eq_append_getElem hj]; exact List.drop_left' (by rw [List.length_take]; omega)
    have hb := hl _ (List.getElem_mem hj)
    have hB : Bs [l[j]] := fun b hb2 => by rw [List.mem_singleton.1 hb2]; exact hb
    rw [show 15 * (d + 1) + 1 + R = (12 + 1 + (15 * d + 1 + R) + 1) + 1 by omega, arrearslaw8_LedgerAddsUp.l0, ej, if_pos (by omega), if_pos (by omega), if_pos (by omega), if_pos (by omega), Int.toNat_natCast, Int.toNat_natCast, e1, total_true _ hB (by simp) _ (by simp; omega), au_one _ hb]
    simp only [Option.bind_some]
    rw [if_pos trivial, rd_at l j hj, same_true _ (by omega)]
    simp only [Option.bind_some, Bool.not_true]
    rw [show 12 + 1 + (15 * d + 1 + R) + 1 = (12 + 1 + (15 * d + 1 + R)) + 1 from rfl, arrearslaw8_LedgerAddsUp.j3, if_neg (by simp)]
    refine (au_l1 l hl x1 even j hj (by omega) (15 * d + 1 + R) 12 0 (0, 0) (by omega) rfl (by decide) (by decide) (by decide) (by decide)).trans ?_
    refine ih (j + 1) _ (by omega) (fun h2 => ?_)
    rw [Bool.and_eq_true, decide_eq_true_eq] at h2
    have := SS_add (col (l.take j)) (fun i => (nets l[j]).getD i 0) 12
    rw [he h2.1, h2.2] at this
    refine Eq.trans (SS_congr (fun i _ => ?_)) (this.trans (by omega))
    rw [List.take_succ_eq_append_getElem hj, col_app, col_one]
def LedgerAddsUp_Pure : Prop := ∀ (l0 : List (S32)) (a1 : Int), ((∀ x_ ∈ l0, WF32 1048576 x_) ∧ l0.length * 96 ≤ 140737488351232 ∧ l0.length ≤ 1048576) → ((Lit.int .i64 a1).wf = true) → ∃ k, arrearslaw8_LedgerAddsUp.f k l0 a1 = some true
theorem LedgerAddsUp_pure : LedgerAddsUp_Pure := by
  intro l a1 h ha
  have hl : Bs l := by
    intro b hb x hx
    have h2 := h.1 b hb
    unfold WF32 WF30 at h2
    obtain ⟨h0, h1, h2, h3, h4, h5, h6, h7, h8, h9, h10, h11⟩ := h2
    have wf : ∀ {x : Int}, (Lit.int .i64 x).wf = true → Wd.in64 x := fun {x} h => by
      simp [Lit.wf, IntKind.min, IntKind.max, IntKind.bits, IntKind.signed] at h
      exact ⟨by omega, by omega⟩
    unfold nets at hx
    simp only [List.mem_cons, List.not_mem_nil, or_false] at hx
    rcases hx with rfl | rfl | rfl | rfl | rfl | rfl | rfl | rfl | rfl | rfl | rfl | rfl <;> (apply wf; assumption)
  obtain ⟨R, hR⟩ : ∃ R, R = 5000 := ⟨_, rfl⟩
  refine ⟨15 * l.length + 1 + R + 2, ?_⟩
  have e0 : totalOf ([] : List S32) = (0, 0, 0, 0, 0, 0, 0, 0, 0, 0, 0, 0, true) := by rw [total_ok (okB_true (fun i _ => ⟨by simp [col, colL], by simp [col, colL]⟩))]; rfl
  unfold arrearslaw8_LedgerAddsUp.f
  rw [total_true [] (fun b hb => absurd hb List.not_mem_nil) (by simp) _ (by simp; omega), e0]
  simp only [Option.bind_some, if_true]
  rw [same_true _ (by omega)]
  simp only [Option.bind_some, Bool.not_true]
  rw [show 15 * l.length + 1 + R + 2 = (15 * l.length + 1 + R + 1) + 1 by omega, arrearslaw8_LedgerAddsUp.j0, if_neg (by simp)]
  by_cases c : (l.length : Int) > 300
  · rw [if_pos c, arrearslaw8_LedgerAddsUp.j1, if_pos rfl]
  · rw [if_neg c]
    by_cases c1 : a1 < 0
    · rw [if_pos c1, arrearslaw8_LedgerAddsUp.j1, if_pos rfl]
    · rw [if_neg c1]
      by_cases c2 : a1 > (l.length : Int)
      · rw [decide_eq_true c2, arrearslaw8_LedgerAddsUp.j1, if_pos rfl]
      · rw [decide_eq_false c2, arrearslaw8_LedgerAddsUp.j1, if_neg (by simp)]
        exact au_l0 l hl (by omega) a1 (by omega) (by omega) R (by omega) l.length 0 true (by omega) (fun _ => by rw [List.take_zero]; rfl)
end Go.Proofs.Ytmppfpdaglkhkaa.U
