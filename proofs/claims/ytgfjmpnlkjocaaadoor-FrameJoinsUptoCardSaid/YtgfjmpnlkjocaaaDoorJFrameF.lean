/- A frame's bytes, frames behind one another, and what a scan tells of them. No condition but the bytes' range. -/
import Derived.Test.YtgfjmpnlkjocaaaDoorJFrameQ
import Derived.Test.YtgfjmpnlkjocaaaDoorJx1
import Derived.Test.YtgfjmpnlkjocaaaDoorJx3
namespace Go.Proofs.YtgfjmpnlkjocaaaDoor.J
open Go.RowKit Go.Proofs.YtgfjmpnlkjocaaaDoorW.PrintWords Go.Proofs.YtgfjmpnlkjocaaaDoorW.PrintLast Go.Proofs.YtgfjmpnlkjocaaaDoorW.PrintMore
set_option linter.unusedVariables false
set_option linter.unusedSimpArgs false

theorem Bytes.append {l m : List Int} (h : Bytes l) (h2 : Bytes m) : Bytes (l ++ m) := fun x hx => by
  rcases List.mem_append.1 hx with hx | hx
  · exact h x hx
  · exact h2 x hx
theorem Bytes.nil : Bytes [] := fun x hx => by simp at hx
/-- Four bytes of a number. -/
def b4 (n : Int) : List Int := [n % 256, n / 256 % 256, n / 65536 % 256, n / 16777216 % 256]
theorem b4_bytes (n : Int) : Bytes (b4 n) := by
  intro x hx
  simp only [b4, List.mem_cons, List.not_mem_nil, or_false] at hx
  omega
theorem b4_len (n : Int) : (b4 n).length = 4 := rfl
theorem wd_b4 (n : Int) (h0 : 0 ≤ n) (h1 : n ≤ 4294967295) (r : List Int) : wd (b4 n ++ r) = n := by
  show n % 256 + 256 * (n / 256 % 256) + 65536 * (n / 65536 % 256) + 16777216 * (n / 16777216 % 256) = n
  omega
theorem b4_wd (l : List Int) (hb : Bytes l) (h4 : 4 ≤ l.length) : b4 (wd l) ++ l.drop 4 = l := by
  obtain ⟨a, b, c, d, m, rfl⟩ : ∃ a b c d m, l = a :: b :: c :: d :: m := by
    match l, h4 with
    | a :: b :: c :: d :: m, _ => exact ⟨a, b, c, d, m, rfl⟩
  have ha := hb a (by simp); have hb' := hb b (by simp); have hc := hb c (by simp); have hd := hb d (by simp)
  have e : wd (a :: b :: c :: d :: m) = a + 256 * b + 65536 * c + 16777216 * d := rfl
  rw [e]
  show [(a + 256 * b + 65536 * c + 16777216 * d) % 256, (a + 256 * b + 65536 * c + 16777216 * d) / 256 % 256, (a + 256 * b + 65536 * c + 16777216 * d) / 65536 % 256, (a + 256 * b + 65536 * c + 16777216 * d) / 16777216 % 256] ++ m = _
  rw [show (a + 256 * b + 65536 * c + 16777216 * d) % 256 = a from by omega, show (a + 256 * b + 65536 * c + 16777216 * d) / 256 % 256 = b from by omega, show (a + 256 * b + 65536 * c + 16777216 * d) / 65536 % 256 = c from by omega, show (a + 256 * b + 65536 * c + 16777216 * d) / 16777216 % 256 = d from by omega]
  rfl
theorem put_is (l : List Int) (n : Int) (hl : l.length ≤ 1000000000) : frame_put.f l n = some (l ++ b4 n) := by
  unfold frame_put.f
  rw [Option.bind_some, if_pos (by simp; omega)]
  rfl
/-- The frame of a payload. -/
def fr (p : List Int) : List Int := b4 p.length ++ p ++ b4 (sm (b4 p.length ++ p))
def Good (p : List Int) : Prop := Bytes p ∧ p.length ≤ 4194304
theorem fr_len (p : List Int) : (fr p).length = p.length + 8 := by simp [fr, b4_len]; omega
theorem fr_bytes {p : List Int} (h : Bytes p) : Bytes (fr p) := ((b4_bytes _).append h).append (b4_bytes _)
theorem encode_is (p : List Int) (h : Good p) : frame_Encode.f p = some (fr p, true) := by
  obtain ⟨hb, hl⟩ := h
  unfold frame_Encode.f
  rw [if_neg (by omega), put_is [] _ (by simp), Option.bind_some, List.nil_append]
  obtain ⟨e1, _, _⟩ := sm_prog (b4 p.length ++ p) ((b4_bytes _).append hb)
  rw [e1, Option.bind_some, put_is _ _ (by rw [List.length_append, b4_len]; omega), Option.bind_some, if_pos (by rw [b4_len]; omega)]
  rfl
theorem spec_drop (l : List Int) (a : Nat) : spec l a = spec (l.drop a) 0 := by
  unfold spec
  rw [List.drop_zero]
theorem pay_drop (l : List Int) (a : Nat) (n : Int) : pay l a n = pay (l.drop a) 0 n := by
  unfold pay
  rw [List.drop_zero]
theorem fr_cut (p z : List Int) : (fr p ++ z).take (4 + (p.length : Int)).toNat = b4 p.length ++ p ∧ (fr p ++ z).drop (4 + (p.length : Int)).toNat = b4 (sm (b4 p.length ++ p)) ++ z := by
  have e : fr p ++ z = (b4 p.length ++ p) ++ (b4 (sm (b4 p.length ++ p)) ++ z) := by unfold fr; simp [List.append_assoc]
  have hl : (b4 p.length ++ p).length = (4 + (p.length : Int)).toNat := by rw [List.length_append, b4_len]; omega
  rw [e, ← hl]
  exact ⟨List.take_left, List.drop_left⟩
theorem wd_fr (p z : List Int) (hl : p.length ≤ 4194304) : wd (fr p ++ z) = p.length := by
  have e : fr p ++ z = b4 p.length ++ (p ++ (b4 (sm (b4 p.length ++ p)) ++ z)) := by unfold fr; simp [List.append_assoc]
  rw [e, wd_b4 _ (by omega) (by omega)]
theorem spec_fr (p z : List Int) (h : Good p) : spec (fr p ++ z) 0 = (true, (p.length : Int), 0) := by
  obtain ⟨hb, hl⟩ := h
  have hlen : (fr p ++ z).length = p.length + 8 + z.length := by rw [List.length_append, fr_len]
  obtain ⟨_, s0, s1⟩ := sm_prog (b4 p.length ++ p) ((b4_bytes _).append hb)
  obtain ⟨t1, t2⟩ := fr_cut p z
  unfold spec
  rw [List.drop_zero, wd_fr p z hl, if_neg (by omega), if_neg (by omega), if_neg (by omega), if_neg (by omega), t1, t2, wd_b4 _ s0 s1, if_pos rfl]
theorem pay_fr (p z : List Int) : pay (fr p ++ z) 0 (p.length : Int) = p := by
  unfold pay
  rw [List.drop_zero, (fr_cut p z).1]
  exact List.drop_left (l₁ := b4 p.length)
/-- What is whole is a frame. -/
theorem whole_fr (l : List Int) (hb : Bytes l) (a : Nat) (ha : a ≤ l.length) (h : (spec l a).1 = true) : ∃ p z, l.drop a = fr p ++ z ∧ Good p ∧ spec l a = (true, (p.length : Int), 0) ∧ pay l a (p.length : Int) = p := by
  obtain ⟨h0, h1, h2, h3⟩ := spec_whole ha hb h
  have hd : (l.drop a).length = l.length - a := List.length_drop
  have hs : spec l a = (true, (spec l a).2.1, 0) := by
    have : spec l a = ((spec l a).1, (spec l a).2.1, (spec l a).2.2) := rfl
    rw [this, h, h3]
  obtain ⟨n, hn⟩ := Int.eq_ofNat_of_zero_le h0
  have hpl := pay_len (l := l) (a := a) h0 (by omega)
  rw [hn] at h1 h2 hpl hs
  rw [Int.toNat_natCast] at hpl
  have hbl := hb.drop a
  -- the length, and the sum
  have hw : wd (l.drop a) = (n : Int) ∧ sm ((l.drop a).take (4 + wd (l.drop a)).toNat) = wd ((l.drop a).drop (4 + wd (l.drop a)).toNat) := by
    have hs2 := hs
    unfold spec at hs2
    rw [if_neg (by omega), if_neg (by omega)] at hs2
    split at hs2
    · simp at hs2
    split at hs2
    · simp at hs2
    split at hs2
    · rename_i he
      simp only [Prod.mk.injEq, true_and, and_true] at hs2
      exact ⟨hs2, he⟩
    · simp at hs2
  obtain ⟨hw1, hw2⟩ := hw
  rw [hw1] at hw2
  have hp : pay l a (n : Int) = ((l.drop a).take (4 + (n : Int)).toNat).drop 4 := rfl
  have e1 : b4 (n : Int) ++ pay l a (n : Int) = (l.drop a).take (4 + (n : Int)).toNat := by
    rw [hp]
    have h4 := b4_wd ((l.drop a).take (4 + (n : Int)).toNat) (hbl.take _) (by rw [List.length_take]; omega)
    have hw3 : wd ((l.drop a).take (4 + (n : Int)).toNat) = (n : Int) := by
      have e2 := b4_wd (l.drop a) hbl (by omega)
      rw [hw1] at e2
      have e3 : (l.drop a).take (4 + (n : Int)).toNat = b4 n ++ ((l.drop a).drop 4).take n := by
        conv => lhs; rw [← e2]
        rw [List.take_append, b4_len, List.take_of_length_le (by rw [b4_len]; omega)]
        congr 2
        omega
      rw [e3, wd_b4 _ (by omega) (by omega)]
    rw [hw3] at h4
    exact h4
  refine ⟨pay l a n, (l.drop a).drop (n + 8), ?_, ⟨?_, by omega⟩, by rw [hpl]; exact hs, by rw [hpl]⟩
  · have e4 : l.drop a = (l.drop a).take (4 + (n : Int)).toNat ++ (l.drop a).drop (4 + (n : Int)).toNat := (List.take_append_drop _ _).symm
    have e5 := b4_wd ((l.drop a).drop (4 + (n : Int)).toNat) (hbl.drop _) (by rw [List.length_drop]; omega)
    unfold fr
    rw [hpl, e1, hw2, List.append_assoc, show (l.drop a).drop (n + 8) = ((l.drop a).drop (4 + (n : Int)).toNat).drop 4 from by simp only [List.drop_drop]; congr 1; omega, e5]
    exact e4
  · exact fun x hx => hbl x (List.mem_of_mem_take (List.mem_of_mem_drop hx))
/-- Frames, one behind the other. -/
def jn : List (List Int) → List Int
  | [] => []
  | p :: ps => fr p ++ jn ps
theorem jn_cons (p : List Int) (ps : List (List Int)) : jn (p :: ps) = fr p ++ jn ps := rfl
theorem jn_bytes : ∀ ps : List (List Int), (∀ p ∈ ps, Good p) → Bytes (jn ps)
  | [], _ => Bytes.nil
  | p :: ps, h => (fr_bytes (h p (by simp)).1).append (jn_bytes ps (fun q hq => h q (List.mem_cons_of_mem _ hq)))
theorem jn_append : ∀ (ps qs : List (List Int)), jn (ps ++ qs) = jn ps ++ jn qs
  | [], _ => rfl
  | p :: ps, qs => by
    show fr p ++ jn (ps ++ qs) = fr p ++ jn ps ++ jn qs
    rw [jn_append ps qs, List.append_assoc]
theorem jn_len_le : ∀ ps : List (List Int), ps.length ≤ (jn ps).length
  | [] => by simp
  | p :: ps => by have := jn_len_le ps; rw [jn_cons, List.length_append, fr_len, List.length_cons]; omega
theorem g_succ (k : Nat) (l : List Int) (a : Nat) : frame_Scan.g (k + 1) l a = (frame_Decode.nx l a).bind fun q => if q.2.2.1 = true then (frame_Scan.g k l q.2.2.2.toNat).bind fun r => some (q.1 :: r.1, r.2.1, r.2.2) else some ([], (a : Int), q.2.1) := rfl
def shift (n : Int) (r : List (List Int) × Int × Int) : List (List Int) × Int × Int := (r.1, n + r.2.1, r.2.2)
theorem g_shift (x y : List Int) (hb : Bytes (x ++ y)) : ∀ (k a : Nat), a ≤ y.length → frame_Scan.g k (x ++ y) (x.length + a) = (frame_Scan.g k y a).map (shift x.length)
  | 0, a, _ => rfl
  | k + 1, a, ha => by
    have hby : Bytes y := fun z hz => hb z (List.mem_append_right _ hz)
    have hd : (x ++ y).drop (x.length + a) = y.drop a := by rw [← List.drop_drop, List.drop_left]
    have hlen : (x ++ y).length = x.length + y.length := List.length_append
    have es : spec (x ++ y) (x.length + a) = spec y a := by rw [spec_drop, hd, ← spec_drop]
    have ep : ∀ n, pay (x ++ y) (x.length + a) n = pay y a n := fun n => by rw [pay_drop, hd, ← pay_drop]
    rw [g_succ, g_succ, nx_is _ hb _ (by omega), nx_is y hby a ha, es, Option.bind_some, Option.bind_some]
    by_cases c : (spec y a).1 = true
    · obtain ⟨h0, h1, h2, h3⟩ := spec_whole ha hby c
      rw [if_pos c, if_pos c, ep, if_pos rfl, if_pos rfl]
      rw [show (((x.length + a : Nat) : Int) + (4 + (spec y a).2.1 + 4)).toNat = x.length + (a + (4 + (spec y a).2.1 + 4).toNat) from by omega, show ((a : Int) + (4 + (spec y a).2.1 + 4)).toNat = a + (4 + (spec y a).2.1 + 4).toNat from by omega, g_shift x y hb k _ (by omega)]
      cases frame_Scan.g k y (a + (4 + (spec y a).2.1 + 4).toNat) <;> rfl
    · rw [if_neg c, if_neg c]
      simp [shift]
theorem g_fr (p z : List Int) (h : Good p) (hz : Bytes z) (k : Nat) : frame_Scan.g (k + 1) (fr p ++ z) 0 = (frame_Scan.g k z 0).map fun r => (p :: r.1, ((fr p).length : Int) + r.2.1, r.2.2) := by
  have hb : Bytes (fr p ++ z) := (fr_bytes h.1).append hz
  have hs := g_shift (fr p) z hb k 0 (by omega)
  rw [g_succ, nx_is _ hb 0 (by omega), spec_fr p z h, Option.bind_some, if_pos rfl, if_pos rfl, pay_fr]
  rw [show (((0 : Nat) : Int) + (4 + (p.length : Int) + 4)).toNat = (fr p).length + 0 from by rw [fr_len]; omega, hs]
  cases frame_Scan.g k z 0 <;> rfl
theorem g_jn (z : List Int) (hz : Bytes z) (k : Nat) : ∀ ps : List (List Int), (∀ p ∈ ps, Good p) → frame_Scan.g (k + ps.length) (jn ps ++ z) 0 = (frame_Scan.g k z 0).map fun r => (ps ++ r.1, ((jn ps).length : Int) + r.2.1, r.2.2)
  | [], _ => by
    show frame_Scan.g k z 0 = _
    cases frame_Scan.g k z 0
    · rfl
    · simp [jn]
  | p :: ps, h => by
    have h2 : ∀ q ∈ ps, Good q := fun q hq => h q (List.mem_cons_of_mem _ hq)
    rw [show k + (p :: ps).length = k + ps.length + 1 from by rw [List.length_cons]; omega, show jn (p :: ps) ++ z = fr p ++ (jn ps ++ z) from by rw [jn_cons, List.append_assoc], g_fr p _ (h p (by simp)) ((jn_bytes ps h2).append hz), g_jn z hz k ps h2]
    cases frame_Scan.g k z 0 with
    | none => rfl
    | some r =>
      simp only [Option.map_some, Option.some.injEq, Prod.mk.injEq, List.cons_append, true_and, and_true]
      rw [jn_cons, List.length_append]
      omega
theorem g_nil (k : Nat) : frame_Scan.g (k + 1) [] 0 = some ([], 0, 0) := by
  rw [g_succ, nx_is [] Bytes.nil 0 (by simp)]
  rfl
theorem g_le (l : List Int) (a : Nat) (r : List (List Int) × Int × Int) (j : Nat) : ∀ k, frame_Scan.g k l a = some r → frame_Scan.g (k + j) l a = some r := by
  induction j with
  | zero => exact fun k h => h
  | succ j ih => exact fun k h => frame_Scan.mono_g _ _ _ r (ih k h)
/-- What a scan tells: the frames that lie there. -/
theorem g_split (l : List Int) (hb : Bytes l) : ∀ (k a : Nat) (r1 : List (List Int)) (r2 r3 : Int), a ≤ l.length → frame_Scan.g k l a = some (r1, r2, r3) → (∀ p ∈ r1, Good p) ∧ (∃ z, l.drop a = jn r1 ++ z) ∧ r2 = (a : Int) + (jn r1).length ∧ (a : Int) + (jn r1).length ≤ l.length
  | 0, _, _, _, _, _, h => by simp [frame_Scan.g] at h
  | k + 1, a, r1, r2, r3, ha, h => by
    rw [g_succ, nx_is l hb a ha, Option.bind_some] at h
    by_cases c : (spec l a).1 = true
    · obtain ⟨p, z, e1, hg, e2, e3⟩ := whole_fr l hb a ha c
      rw [if_pos c, if_pos rfl, e2, e3] at h
      have hlen : (l.drop a).length = (fr p ++ z).length := by rw [e1]
      rw [List.length_drop, List.length_append, fr_len] at hlen
      obtain ⟨q, hq, h⟩ := Option.bind_eq_some_iff.mp h
      obtain ⟨q1, q2, q3⟩ := q
      simp only [Option.some.injEq, Prod.mk.injEq] at h
      obtain ⟨rfl, rfl, rfl⟩ := h
      rw [show ((a : Int) + (4 + (p.length : Int) + 4)).toNat = a + (fr p).length from by rw [fr_len]; omega] at hq
      obtain ⟨g1, ⟨z2, g2⟩, g3, g4⟩ := g_split l hb k _ q1 q2 q3 (by rw [fr_len]; omega) hq
      have ez : z = jn q1 ++ z2 := by
        rw [← g2, ← List.drop_drop, e1, List.drop_left]
      refine ⟨fun x hx => ?_, ⟨z2, ?_⟩, ?_, ?_⟩
      · rcases List.mem_cons.1 hx with rfl | hx
        · exact hg
        · exact g1 x hx
      · rw [e1, ez, jn_cons, List.append_assoc]
      · rw [jn_cons, List.length_append, g3]; omega
      · rw [jn_cons, List.length_append]; omega
    · rw [if_neg c, if_neg (by simp)] at h
      simp only [Option.some.injEq, Prod.mk.injEq] at h
      obtain ⟨rfl, rfl, rfl⟩ := h
      exact ⟨fun p hp => by simp at hp, ⟨_, rfl⟩, by simp [jn], by simp [jn]; exact ha⟩
theorem g_some (l : List Int) (hb : Bytes l) (d : Nat) : ∀ a : Nat, a ≤ l.length → l.length - a < d → ∃ r, frame_Scan.g d l a = some r := by
  induction d with
  | zero => intro a _ h; omega
  | succ d ih =>
    intro a ha hd
    rw [g_succ, nx_is l hb a ha, Option.bind_some]
    by_cases c : (spec l a).1 = true
    · obtain ⟨h0, h1, h2, h3⟩ := spec_whole ha hb c
      obtain ⟨r, hr⟩ := ih (a + (4 + (spec l a).2.1 + 4).toNat) (by omega) (by omega)
      rw [if_pos c, if_pos rfl, show ((a : Int) + (4 + (spec l a).2.1 + 4)).toNat = a + (4 + (spec l a).2.1 + 4).toNat from by omega, hr]
      exact ⟨_, rfl⟩
    · rw [if_neg c, if_neg (by simp)]; exact ⟨_, rfl⟩
theorem scan_some (l : List Int) (hb : Bytes l) (hl : l.length ≤ 1000000000) (k : Nat) (hk : l.length < k) : ∃ r1 r2 r3, frame_Scan.f k l = some (r1, r2, r3) ∧ frame_Scan.g k l 0 = some (r1, r2, r3) ∧ (∀ p ∈ r1, Good p) ∧ (∃ z, l = jn r1 ++ z) ∧ r2 = ((jn r1).length : Int) ∧ (jn r1).length ≤ l.length := by
  obtain ⟨⟨r1, r2, r3⟩, h⟩ := g_some l hb (l.length + 1) 0 (by omega) (by omega)
  have h2 := g_le l 0 _ (k - (l.length + 1)) _ h
  rw [show l.length + 1 + (k - (l.length + 1)) = k from by omega] at h2
  obtain ⟨g1, ⟨z, g2⟩, g3, g4⟩ := g_split l hb k 0 r1 r2 r3 (by omega) h2
  refine ⟨r1, r2, r3, by unfold frame_Scan.f; rw [if_pos hl]; exact h2, h2, g1, ⟨z, by rw [← g2, List.drop_zero]⟩, by rw [g3]; simp, by omega⟩
theorem scan_of_g {l : List Int} {r : List (List Int) × Int × Int} {k j : Nat} (hl : l.length ≤ 1000000000) (h : frame_Scan.g j l 0 = some r) (hk : j ≤ k) : frame_Scan.f k l = some r := by
  have h2 := g_le l 0 r (k - j) j h
  rw [show j + (k - j) = k from by omega] at h2
  unfold frame_Scan.f
  rw [if_pos hl]
  exact h2
theorem scan_jn (ps : List (List Int)) (h : ∀ p ∈ ps, Good p) (hl : (jn ps).length ≤ 1000000000) (k : Nat) (hk : ps.length < k) : frame_Scan.f k (jn ps) = some (ps, ((jn ps).length : Int), 0) := by
  have h1 := g_jn [] Bytes.nil 1 ps h
  rw [List.append_nil, g_nil 0, Option.map_some, List.append_nil, Int.add_zero] at h1
  exact scan_of_g hl h1 (by omega)
end Go.Proofs.YtgfjmpnlkjocaaaDoor.J
