/- Plain facts on what a posting comes to: sums of an account's moves. No condition. -/
import Derived.Test.YtmppfpdaglkhkaaDoorQx2
namespace Go.Proofs.YtmppfpdaglkhkaaDoor.Q
open Go.RowKit Go.Proofs.YtmppfpdaglkhkaaDoorW.PrintWords Go.Proofs.YtmppfpdaglkhkaaDoorW.PrintLast
set_option linter.unusedVariables false
set_option linter.unusedSimpArgs false

theorem post_list_eq {S : List Int} (h : S.length = 12) : [S.getD 0 0, S.getD 1 0, S.getD 2 0, S.getD 3 0, S.getD 4 0, S.getD 5 0, S.getD 6 0, S.getD 7 0, S.getD 8 0, S.getD 9 0, S.getD 10 0, S.getD 11 0] = S := by
  obtain ⟨x0, x1, x2, x3, x4, x5, x6, x7, x8, x9, x10, x11, rfl⟩ := ledger_Post.split12 h
  rfl
/-- A book of twelve numbers of 64 bits. -/
def Bk (b : List Int) : Prop := b.length = 12 ∧ ∀ x ∈ b, ledger_Post.in64 x
def Es (l : List S43) : Prop := ∀ e ∈ l, ledger_Post.in64 e.f2
theorem Bk.get {b : List Int} (h : Bk b) (i : Nat) : ledger_Post.in64 (b.getD i 0) := ledger_Post.in_list h.2 i
theorem Es.append {l m : List S43} (h : Es l) (k : Es m) : Es (l ++ m) := fun e he => (List.mem_append.1 he).elim (h e) (k e)
def good (b : List Int) (l : List S43) : Prop := ledger_Post.bad l = 0 ∧ ∀ i, i < 12 → ledger_Post.inr (ledger_Post.tot b l i) = true ∧ ledger_Post.wrong i (ledger_Post.tot b l i) = false
def after (b : List Int) (l : List S43) : List Int := (List.range 12).map (ledger_Post.tot b l)
theorem after_len (b : List Int) (l : List S43) : (after b l).length = 12 := by simp [after]
theorem after_get (b : List Int) (l : List S43) {i : Nat} (h : i < 12) : (after b l).getD i 0 = ledger_Post.tot b l i := by
  unfold after
  rw [List.getD_eq_getElem?_getD, List.getElem?_map, List.getElem?_range h]; rfl
theorem spec_good {b : List Int} {l : List S43} (h : good b l) : ledger_Post.spec b l = (after b l, 0) := by
  unfold ledger_Post.spec
  rw [if_pos h.1, if_pos (by rw [List.all_eq_true]; exact fun i hi => (h.2 i (List.mem_range.1 hi)).1), if_pos (by rw [List.all_eq_true]; exact fun i hi => by rw [(h.2 i (List.mem_range.1 hi)).2]; rfl)]
  rfl
theorem err_ne (e : S43) : ledger_Post.err e = 0 ∨ ledger_Post.err e = 80 ∨ ledger_Post.err e = 4 := by
  unfold ledger_Post.err; split
  · exact .inr (.inl rfl)
  · split
    · exact .inr (.inr rfl)
    · exact .inl rfl
theorem bad_is : ∀ l : List S43, ledger_Post.bad l = 0 ∨ ledger_Post.bad l = 80 ∨ ledger_Post.bad l = 4
  | [] => .inl rfl
  | e :: l => by
    unfold ledger_Post.bad
    split
    · exact bad_is l
    · exact err_ne e
theorem spec_cases (b : List Int) (l : List S43) : (good b l ∧ ledger_Post.spec b l = (after b l, 0)) ∨ (¬ good b l ∧ (ledger_Post.spec b l).1 = b ∧ (ledger_Post.spec b l).2 ≠ 0 ∧
    ((ledger_Post.bad l ≠ 0 ∧ (ledger_Post.spec b l).2 = ledger_Post.bad l) ∨ (ledger_Post.bad l = 0 ∧ ((ledger_Post.spec b l).2 = 3 ∨ (ledger_Post.spec b l).2 = 81)))) := by
  by_cases hg : good b l
  · exact .inl ⟨hg, spec_good hg⟩
  · refine .inr ⟨hg, ?_⟩
    unfold ledger_Post.spec
    by_cases h0 : ledger_Post.bad l = 0
    · rw [if_pos h0]
      by_cases h1 : (List.range 12).all (fun i => ledger_Post.inr (ledger_Post.tot b l i)) = true
      · rw [if_pos h1]
        by_cases h2 : (List.range 12).all (fun i => !ledger_Post.wrong i (ledger_Post.tot b l i)) = true
        · exfalso
          refine hg ⟨h0, fun i hi => ⟨List.all_eq_true.1 h1 i (List.mem_range.2 hi), ?_⟩⟩
          have := List.all_eq_true.1 h2 i (List.mem_range.2 hi)
          simpa using this
        · rw [if_neg h2]; exact ⟨rfl, by simp, .inr ⟨h0, .inr rfl⟩⟩
      · rw [if_neg h1]; exact ⟨rfl, by simp, .inr ⟨h0, .inl rfl⟩⟩
    · rw [if_neg h0]; exact ⟨rfl, h0, .inl ⟨h0, rfl⟩⟩
theorem after_bk {b : List Int} {l : List S43} (h : good b l) : Bk (after b l) := by
  refine ⟨after_len b l, fun x hx => ?_⟩
  unfold after at hx
  obtain ⟨i, hi, rfl⟩ := List.mem_map.1 hx
  have h2 := (h.2 i (List.mem_range.1 hi)).1
  unfold ledger_Post.inr at h2
  rw [Bool.and_eq_true, decide_eq_true_eq, decide_eq_true_eq] at h2
  exact ⟨by omega, h2.2⟩
theorem spec_bk {b : List Int} (hb : Bk b) (l : List S43) : Bk (ledger_Post.spec b l).1 := by
  rcases spec_cases b l with ⟨h, e⟩ | ⟨_, e, _⟩
  · rw [e]; exact after_bk h
  · rw [e]; exact hb
theorem bad_append : ∀ {l : List S43} (m : List S43), ledger_Post.bad l = 0 → ledger_Post.bad (l ++ m) = ledger_Post.bad m
  | [], _, _ => rfl
  | e :: l, m, h => by
    unfold ledger_Post.bad at h
    split at h
    · rename_i he
      rw [List.cons_append, show ledger_Post.bad (e :: (l ++ m)) = if ledger_Post.err e = 0 then ledger_Post.bad (l ++ m) else ledger_Post.err e from rfl, if_pos he]
      exact bad_append m h
    · rename_i he; exact absurd h he
theorem tot_append (b : List Int) (l m : List S43) {i : Nat} (hi : i < 12) : ledger_Post.tot b (l ++ m) i = ledger_Post.tot (after b l) m i := by
  unfold ledger_Post.tot
  rw [show (after b l).getD i 0 = b.getD i 0 + (l.map (ledger_Post.amt i)).sum from after_get b l hi, List.map_append, List.sum_append_int]
  omega
theorem tot_congr {b : List Int} {l m : List S43} (h : ∀ i, (l.map (ledger_Post.amt i)).sum = (m.map (ledger_Post.amt i)).sum) (i : Nat) : ledger_Post.tot b l i = ledger_Post.tot b m i := by
  unfold ledger_Post.tot; rw [h i]
theorem spec_congr {b : List Int} {l m : List S43} (hl : ledger_Post.bad l = 0) (hm : ledger_Post.bad m = 0) (h : ∀ i, ledger_Post.tot b l i = ledger_Post.tot b m i) : ledger_Post.spec b l = ledger_Post.spec b m := by
  unfold ledger_Post.spec
  rw [if_pos hl, if_pos hm, show ledger_Post.tot b l = ledger_Post.tot b m from funext h]
/-- What the call tells, as one tuple. -/
def tup (r : List Int × Int) : Int × Int × Int × Int × Int × Int × Int × Int × Int × Int × Int × Int × Int :=
  (r.1.getD 0 0, r.1.getD 1 0, r.1.getD 2 0, r.1.getD 3 0, r.1.getD 4 0, r.1.getD 5 0, r.1.getD 6 0, r.1.getD 7 0, r.1.getD 8 0, r.1.getD 9 0, r.1.getD 10 0, r.1.getD 11 0, r.2)
theorem post_f {a0 a1 a2 a3 a4 a5 a6 a7 a8 a9 a10 a11 : Int} {l : List S43} (hb : Bk [a0, a1, a2, a3, a4, a5, a6, a7, a8, a9, a10, a11]) (hl : Es l) :
    ledger_Post.f a0 a1 a2 a3 a4 a5 a6 a7 a8 a9 a10 a11 l = some (tup (ledger_Post.spec [a0, a1, a2, a3, a4, a5, a6, a7, a8, a9, a10, a11] l)) := by
  unfold ledger_Post.f
  rw [if_pos ⟨hl, hb.2⟩]; rfl
theorem post_l {S : List Int} {l : List S43} (hb : Bk S) (hl : Es l) :
    ledger_Post.f (S.getD 0 0) (S.getD 1 0) (S.getD 2 0) (S.getD 3 0) (S.getD 4 0) (S.getD 5 0) (S.getD 6 0) (S.getD 7 0) (S.getD 8 0) (S.getD 9 0) (S.getD 10 0) (S.getD 11 0) l = some (tup (ledger_Post.spec S l)) := by
  have e := post_list_eq hb.1
  rw [post_f (by rw [e]; exact hb) hl, e]
end Go.Proofs.YtmppfpdaglkhkaaDoor.Q
