/- LedgerPosts: of any book and any entries the law's answer is true: Post is the document's, the entries stay; of the list written over, too. No condition but the numbers' range and lengths up to a bound. -/
import Derived.Test.YtmppfpdaglkhkaaDoorQLedO
import Derived.Test.YtmppfpdaglkhkaaDoorQx9
import Derived.Test.YtmppfpdaglkhkaaDoorQOpen
namespace Go.Proofs.YtmppfpdaglkhkaaDoor.Q
open Go.RowKit Go.Proofs.YtmppfpdaglkhkaaDoorW.PrintWords Go.Proofs.YtmppfpdaglkhkaaDoorW.PrintLast Go.Proofs.YtmppfpdaglkhkaaDoorW.PrintMore
set_option linter.unusedVariables false
set_option linter.unusedSimpArgs false

set_option maxRecDepth 10000 in
theorem same_true (k : Nat) (hk : 14 ≤ k) (a0 a1 a2 a3 a4 a5 a6 a7 a8 a9 a10 a11 : Int) : arrearslaw8_same.f k a0 a1 a2 a3 a4 a5 a6 a7 a8 a9 a10 a11 a0 a1 a2 a3 a4 a5 a6 a7 a8 a9 a10 a11 = some true := by
  obtain ⟨m, rfl⟩ : ∃ m, k = m + 14 := ⟨k - 14, by omega⟩
  simp [arrearslaw8_same.f, arrearslaw8_same.l0, wrap64]
/-- The book of an argument: twelve numbers of 64 bits. -/
theorem bk_of {B : Nat} {x0 : S24} (h : WF24 B x0) : Bk [x0.f0.f0, x0.f0.f1, x0.f0.f2, x0.f0.f3, x0.f0.f4, x0.f0.f5, x0.f0.f6, x0.f0.f7, x0.f0.f8, x0.f0.f9, x0.f0.f10, x0.f0.f11] := by
  unfold WF24 WF22 at h
  obtain ⟨h0, h1, h2, h3, h4, h5, h6, h7, h8, h9, h10, h11⟩ := h
  refine ⟨rfl, fun x hx => ?_⟩
  simp only [List.mem_cons, List.not_mem_nil, or_false] at hx
  rcases hx with rfl | rfl | rfl | rfl | rfl | rfl | rfl | rfl | rfl | rfl | rfl | rfl <;> (apply wf64'; assumption)
theorem es_of {B : Nat} {l : List S43} (h : ∀ x_ ∈ l, WF43 B x_) : Es l := fun e he => wf64' (h e he).2.2
theorem alike_loop (l : List S43) (hl : l.length ≤ 5864062014700) : ∀ (d i m : Nat), i + d = l.length → arrearslaw8_alike.l0 (d + 1 + m) l l (i : Int) = some true := by
  intro d
  induction d with
  | zero =>
    intro i m h
    rw [show 0 + 1 + m = m + 1 by omega, arrearslaw8_alike.l0, if_neg (by omega)]
  | succ d ih =>
    intro i m h
    rw [show d + 1 + 1 + m = (d + 1 + m) + 1 by omega, arrearslaw8_alike.l0, if_pos (by omega), if_pos (by omega), if_pos (by omega), if_pos rfl, if_pos rfl, if_pos rfl, w64 (by omega) (by omega)]
    exact ih (i + 1) m (by omega)
theorem alike_true (l : List S43) (hl : l.length ≤ 5864062014700) (k : Nat) (hk : l.length + 1 ≤ k) : arrearslaw8_alike.f k l l = some true := by
  unfold arrearslaw8_alike.f
  rw [if_pos rfl]
  obtain ⟨m, rfl⟩ : ∃ m, k = l.length + 1 + m := ⟨k - (l.length + 1), by omega⟩
  exact alike_loop l hl l.length 0 m (by omega)
def ms : List S43 := [⟨wrap64 ((-50) - 1), 77, (-9)⟩, ⟨wrap64 ((-50) - 2), 77, (-9)⟩]
theorem ms_len : ms.length = 2 := rfl
theorem marked_is (l : List S43) (hl : l.length ≤ 5864062014700) : arrearslaw8_marked.f l = some (l ++ ms) := by
  unfold arrearslaw8_marked.f arrearslaw8_mark.f
  rw [if_pos (by rw [List.length_nil]; omega), Option.bind_some, Option.bind_some, Option.bind_some, Option.bind_some, List.nil_append, if_pos (by simp only [List.length_cons, List.length_nil]; omega)]
  rfl
theorem still_is (l : List S43) (hl : l.length ≤ 5864062014700) (k : Nat) (hk : l.length + 5 ≤ k) : arrearslaw8_still.f k (l ++ ms) l = some true := by
  unfold arrearslaw8_still.f arrearslaw8_mark.f
  have e : (l ++ ms).length = l.length + 2 := by rw [List.length_append, ms_len]
  have a := alike_true ms (by rw [ms_len]; omega) k (by rw [ms_len]; omega)
  rw [if_pos (by rw [w64 (by omega) (by omega)]; omega), if_pos (by omega), if_pos (by omega), Int.toNat_natCast, List.take_left, alike_true l hl k (by omega), Option.bind_some, if_pos rfl, Option.bind_some, Option.bind_some, List.drop_left, show arrearslaw8_alike.f k ms [(⟨wrap64 ((-50) - 1), 77, (-9)⟩ : S43), ⟨wrap64 ((-50) - 2), 77, (-9)⟩] = some true from a, Option.bind_some]
def tw (e : S43) : S43 := ⟨e.f1, e.f0, wrap64 (Int.tdiv e.f2 2)⟩
theorem rd_mid (A R : List S43) (x : S43) (i : Nat) (h : A.length = i) : rd_T43 (A ++ x :: R) (i : Int) = x := by
  subst h
  rw [rd_at _ _ (by simp)]
  simp
theorem set_mid (A R : List S43) (x y : S43) (i : Nat) (h : A.length = i) : (A ++ x :: R).set (i : Int).toNat y = A ++ y :: R := by
  subst h
  rw [Int.toNat_natCast, List.set_append_right _ _ (Nat.le_refl _)]
  simp
theorem turned_loop (l M : List S43) (hl : l.length ≤ 5864062014700) : ∀ (d i m : Nat), i + d = l.length →
    arrearslaw8_turned.l0 (d + 1 + m) (l.length : Int) ((l.take i).map tw ++ (l.drop i ++ M)) ((l.take i).map tw) (i : Int) = some (l.map tw, l.map tw ++ M) := by
  intro d
  induction d with
  | zero =>
    intro i m h
    obtain rfl : i = l.length := by omega
    rw [show 0 + 1 + m = m + 1 by omega, arrearslaw8_turned.l0, if_neg (by omega), List.take_length, List.drop_length, List.nil_append]
  | succ d ih =>
    intro i m h
    have hA : ((l.take i).map tw).length = i := by rw [List.length_map, List.length_take]; omega
    have eT : (l.take (i + 1)).map tw = (l.take i).map tw ++ [tw l[i]] := by rw [List.take_succ_eq_append_getElem (by omega), List.map_append]; rfl
    have e0 : l.drop i ++ M = l[i] :: (l.drop (i + 1) ++ M) := by rw [List.drop_eq_getElem_cons (i := i) (by omega)]; rfl
    have h2 := ih (i + 1) m (by omega)
    rw [eT, List.append_assoc] at h2
    rw [show d + 1 + 1 + m = (d + 1 + m) + 1 by omega, arrearslaw8_turned.l0, e0, if_pos (by omega), if_pos (by omega), if_pos (by rw [List.length_append, hA, List.length_cons]; omega), rd_mid _ _ _ i hA, Option.bind_some, set_mid _ _ _ _ i hA, rd_mid _ _ _ i hA, if_pos (by rw [hA]; omega), w64 (x := (i : Int) + 1) (by omega) (by omega), show (i : Int) + 1 = ((i + 1 : Nat) : Int) by omega]
    exact h2
theorem turned_is (l M : List S43) (hl : l.length ≤ 5864062014700) (k : Nat) (hk : l.length + 1 ≤ k) : arrearslaw8_turned.f k (l ++ M) (l.length : Int) = some (l.map tw, l.map tw ++ M) := by
  unfold arrearslaw8_turned.f arrearslaw8_turned.fN
  obtain ⟨m, rfl⟩ : ∃ m, k = l.length + 1 + m := ⟨k - (l.length + 1), by omega⟩
  rw [Int.toNat_natCast]
  have h := turned_loop l M hl l.length 0 m (by omega)
  rw [List.take_zero, List.drop_zero, List.map_nil, List.nil_append] at h
  exact h
theorem es_tw {l : List S43} : Es (l.map tw) := fun e he => by
  obtain ⟨x, _, rfl⟩ := List.mem_map.1 he
  show ledger_Post.in64 (wrap64 _)
  unfold ledger_Post.in64 wrap64
  omega
theorem posts_j0 (l : List S43) (hl : l.length ≤ 1048576) (a0 a1 a2 a3 a4 a5 a6 a7 a8 a9 a10 a11 : Int) (hb : Bk [a0, a1, a2, a3, a4, a5, a6, a7, a8, a9, a10, a11]) (k : Nat) (hk : 2 * l.length + 200 ≤ k) : arrearslaw8_LedgerPosts.j0 (k + 1) l (l ++ ms) (!true) a0 a1 a2 a3 a4 a5 a6 a7 a8 a9 a10 a11 = some true := by
  have hml : (l.map tw).length = l.length := List.length_map _
  rw [arrearslaw8_LedgerPosts.j0, if_neg (by simp), if_pos (by omega), if_pos (by rw [List.length_append]; omega), turned_is l ms (by omega) k (by omega), Option.bind_some]
  show ((ledger_Post.f a0 a1 a2 a3 a4 a5 a6 a7 a8 a9 a10 a11 ((l.map tw ++ ms).take ((l.length : Int)).toNat)).bind _) = _
  rw [show (l.map tw ++ ms).take ((l.length : Int)).toNat = l.map tw from by rw [show ((l.length : Int)).toNat = (l.map tw).length from by omega, List.take_left], post_f hb es_tw, Option.bind_some]
  show ((arrearsref8_Post.f k a0 a1 a2 a3 a4 a5 a6 a7 a8 a9 a10 a11 (l.map tw)).bind _) = _
  rw [rpost_f (l.map tw) (by omega) es_tw a0 a1 a2 a3 a4 a5 a6 a7 a8 a9 a10 a11 hb k (by omega), Option.bind_some, same_true k (by omega), Option.bind_some, if_pos rfl, if_pos rfl]
  show (arrearslaw8_still.f k (l.map tw ++ ms) (l.map tw)).bind _ = _
  rw [still_is (l.map tw) (by omega) k (by omega), Option.bind_some]
theorem posts_true (l : List S43) (hl : l.length ≤ 1048576) (hs : Es l) (a0 a1 a2 a3 a4 a5 a6 a7 a8 a9 a10 a11 : Int) (hb : Bk [a0, a1, a2, a3, a4, a5, a6, a7, a8, a9, a10, a11]) (k : Nat) (hk : 2 * l.length + 200 ≤ k) : arrearslaw8_LedgerPosts.f (k + 1) a0 a1 a2 a3 a4 a5 a6 a7 a8 a9 a10 a11 l = some true := by
  unfold arrearslaw8_LedgerPosts.f
  rw [marked_is l (by omega), Option.bind_some, if_pos (by omega), if_pos (by rw [List.length_append]; omega), show (l ++ ms).take ((l.length : Int)).toNat = l from by rw [show ((l.length : Int)).toNat = l.length from by omega, List.take_left], post_f hb hs, Option.bind_some,
    rpost_f l hl hs a0 a1 a2 a3 a4 a5 a6 a7 a8 a9 a10 a11 hb (k + 1) (by omega), Option.bind_some, same_true (k + 1) (by omega), Option.bind_some, if_pos rfl, if_pos rfl, still_is l (by omega) (k + 1) (by omega), Option.bind_some]
  exact posts_j0 l hl a0 a1 a2 a3 a4 a5 a6 a7 a8 a9 a10 a11 hb k hk
def LedgerPosts_Pure : Prop := ∀ (x0 : S24) (l1 : List (S43)), (WF24 1048576 x0) → ((∀ x_ ∈ l1, WF43 1048576 x_) ∧ l1.length * 24 ≤ 140737488351232 ∧ l1.length ≤ 1048576) → ∃ k, arrearslaw8_LedgerPosts.f k x0.f0.f0 x0.f0.f1 x0.f0.f2 x0.f0.f3 x0.f0.f4 x0.f0.f5 x0.f0.f6 x0.f0.f7 x0.f0.f8 x0.f0.f9 x0.f0.f10 x0.f0.f11 l1 = some true
theorem LedgerPosts_pure : LedgerPosts_Pure := by
  intro x0 l1 h0 h1
  have hn : l1.length ≤ 1048576 := h1.2.2
  exact ⟨2 * l1.length + 200 + 1, posts_true l1 hn (es_of h1.1) _ _ _ _ _ _ _ _ _ _ _ _ (bk_of h0) _ (Nat.le_refl _)⟩
end Go.Proofs.YtmppfpdaglkhkaaDoor.Q
