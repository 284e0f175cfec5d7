/- A shelf of byte strings, each in a block of its own, written full with its own mark; what is laid behind each. No condition. -/
import Derived.Test.YtgfjmpnlkjocaaaDoorFA
namespace Go.Proofs.YtgfjmpnlkjocaaaDoor.J
open Go.RowKit Go.Proofs.YtgfjmpnlkjocaaaDoorW.PrintWords Go.Proofs.YtgfjmpnlkjocaaaDoorW.PrintLast Go.Proofs.YtgfjmpnlkjocaaaDoorW.PrintMore
set_option linter.unusedVariables false
set_option linter.unusedSimpArgs false
set_option maxRecDepth 100000
/-- The mark of the byte string of that number. -/
def mkb (i : Nat) : Int := (i : Int) % 256
theorem Mk.upd' {w w' : World} {v : Value} {n base j : Nat} {o S : Nat → Prop} {mk : Int} (h : Mk w v n base o j mk) (hu : Upd w w' S) (hS : ∀ k, o k → k < w.heap.size → ¬ S k) : Mk w' v n base o j mk := by
  rcases h with h | ⟨g, cap, cur, e, h1, h2, h3, h4⟩
  · exact .inl h
  · exact .inr ⟨g, cap, cur, e, h1, h2, (hu.block g (blk_lt h3) (hS g h2 (blk_lt h3))).trans h3, h4⟩
theorem Mk.own {w : World} {v : Value} {n base j : Nat} {o o' : Nat → Prop} {mk : Int} (h : Mk w v n base o j mk) (ho : ∀ k, o k → k < w.heap.size → o' k) : Mk w v n base o' j mk := by
  rcases h with h | ⟨g, cap, cur, e, h1, h2, h3, h4⟩
  · exact .inl h
  · exact .inr ⟨g, cap, cur, e, h1, ho g h2 (blk_lt h3), h3, h4⟩
/-- The shelf: own tells each block's owner: 1 the row, 3 + i the byte string of number i, of which f i bytes are marked. -/
structure SK (w : World) (N : Nat) (own : Nat → Nat) (v : Value) (ns : List Nat) (f : Nat → Nat) : Prop where
  row : ∃ rows : List (List Value), rows.length = ns.length ∧ Kd.R (Kd.raw 1) 23 w N (fun k => own k = 1) v rows ∧ ∀ (i n : Nat), ns[i]? = some n → ∃ A c, rows[i]? = some ([.slice A n c] : List Value) ∧ Mk w (.slice A n c) n N (fun k => own k = 3 + i) (f i) (mkb i)
section
variable {w w' : World} {N : Nat} {own own' : Nat → Nat} {v : Value} {ns : List Nat} {f : Nat → Nat} {S : Nat → Prop}
theorem SK.upd (h : SK w N own v ns f) (hu : Upd w w' S) (hS : ∀ k, k < w.heap.size → S k → own k = 0 ∨ own k = 2) : SK w' N own v ns f := by
  obtain ⟨rows, e, hr, hx⟩ := h.row
  refine ⟨rows, e, Kd.R_step hr (fun k hk hlt => hu.block k hlt (fun h_ => by have := hS k hlt h_; omega)), fun i n hi => ?_⟩
  obtain ⟨A, c, h1, h2⟩ := hx i n hi
  exact ⟨A, c, h1, h2.upd' hu (fun k hk hlt h_ => by have := hS k hlt h_; omega)⟩
theorem SK.next (h : SK w N own v ns f) (hb : Below w.heap.size w w') : SK w' N own v ns f := h.upd (Upd.of_below hb (fun _ => False)) (fun _ _ h_ => h_.elim)
theorem SK.owned (h : SK w N own v ns f) (ho : ∀ k, k < w.heap.size → own' k = own k) : SK w N own' v ns f := by
  obtain ⟨rows, e, hr, hx⟩ := h.row
  refine ⟨rows, e, Kd.R_mono (Kd.R_bound hr) (fun k hk => (ho k hk.2.2.1).trans hk.1), fun i n hi => ?_⟩
  obtain ⟨A, c, h1, h2⟩ := hx i n hi
  exact ⟨A, c, h1, h2.own (fun k hk hlt => (ho k hlt).trans hk)⟩
theorem SK.slice (h : SK w N own v ns f) : ∃ A c, v = .slice A ns.length c ∧ ns.length ≤ c := by
  obtain ⟨rows, e, hr, hx⟩ := h.row
  obtain ⟨A, c, rfl, hc, _⟩ := Kd.R_reads hr
  exact ⟨A, c, by rw [e], by omega⟩
/-- The cell of number i, and its byte string. -/
theorem SK.get {A : Option Addr} {c : Nat} (h : SK w N own (.slice A ns.length c) ns f) {i : Nat} (hi : i < ns.length) : ∃ ad B b, A = some ad ∧ w.cell? (ad.add i) = some (.slice B ns[i] b) ∧ ns[i] ≤ b ∧ Mk w (.slice B ns[i] b) ns[i] N (fun k => own k = 3 + i) (f i) (mkb i) := by
  obtain ⟨rows, e, hr, hx⟩ := h.row
  obtain ⟨_, _, hC⟩ := Kd.R_reads' hr
  obtain ⟨B, b, h1, h2⟩ := hx i ns[i] (List.getElem?_eq_getElem hi)
  obtain ⟨ad, ha, hcell⟩ := hC.2.2 (by omega)
  obtain ⟨cs, hcl, ⟨rfl, _, _⟩, hcc⟩ := hcell i _ h1
  have hc0 := hcc 0 (.slice B ns[i] b) rfl
  rw [show i * (Kd.raw 1).sz + 0 = i from by show i * 1 + 0 = i; omega] at hc0
  refine ⟨ad, B, b, ha, hc0, ?_, h2⟩
  rcases h2 with ⟨h0, e⟩ | ⟨g, cap, cur, e, _, _, _, h3, _⟩
  · rw [h0]; exact Nat.zero_le _
  · injection e with _ _ e3; omega
theorem SK.fn {f' : Nat → Nat} (h : SK w N own v ns f) (hf : ∀ i, i < ns.length → f i = f' i) : SK w N own v ns f' := by
  obtain ⟨rows, e, hr, hx⟩ := h.row
  refine ⟨rows, e, hr, fun i n hi => ?_⟩
  obtain ⟨A, c, h1, h2⟩ := hx i n hi
  exact ⟨A, c, h1, by rw [← hf i (List.getElem?_eq_some_iff.1 hi).1]; exact h2⟩
/-- The next byte of number i is marked. -/
theorem SK.mark {A : Option Addr} {c : Nat} (h : SK w N own (.slice A ns.length c) ns f) {i : Nat} (hi : i < ns.length) (hj : f i < ns[i]) : ∃ ad b g u, A = some ad ∧ w.cell? (ad.add i) = some (.slice (some ⟨g, 0, none⟩) ns[i] b) ∧ (⟨g, 0, none⟩ : Addr).add (f i) = ⟨g, f i, none⟩ ∧ own g = 3 + i ∧ N ≤ g ∧ w.cell? ⟨g, f i, none⟩ = some u ∧ w.frozen? ⟨g, f i, none⟩ = false ∧
    SK (w.setCell ⟨g, f i, none⟩ (.int .u8 (mkb i))) N own (.slice A ns.length c) ns (fun q => if q = i then f i + 1 else f q) := by
  obtain ⟨ad, B, b, ha, hcell, _, hM⟩ := h.get hi
  obtain ⟨g, u, rfl, e1, ho, hN, hc, hf, ⟨cells, hblk⟩, hM2⟩ := mk_at hM hj
  refine ⟨ad, b, g, u, ha, hcell, e1, ho, hN, hc, hf, ?_⟩
  have hU : Upd w (w.setCell ⟨g, f i, none⟩ (.int .u8 (mkb i))) (fun k => k = g) := Upd.setCell (S := fun k => k = g) (Upd.refl w _) (p := ⟨g, f i, none⟩) (fun _ => rfl) _
  obtain ⟨rows, e, hr, hx⟩ := h.row
  refine ⟨rows, e, Kd.R_step hr (fun k hk hlt => hU.block k hlt (fun h_ => by subst h_; omega)), fun q n hq => ?_⟩
  obtain ⟨B2, b2, h1, h2⟩ := hx q n hq
  by_cases hqi : q = i
  · subst hqi
    rw [if_pos rfl]
    obtain ⟨_, _, hC⟩ := Kd.R_reads' hr
    obtain ⟨ad', ha', hcell'⟩ := hC.2.2 (by omega)
    obtain ⟨cs, hcl, ⟨rfl, _, _⟩, hcc⟩ := hcell' q _ h1
    have hc0 := hcc 0 (.slice B2 n b2) rfl
    rw [show q * (Kd.raw 1).sz + 0 = q from by show q * 1 + 0 = q; omega] at hc0
    rw [ha] at ha'
    injection ha' with ha'
    subst ha'
    rw [hcell] at hc0
    injection hc0 with hc0
    injection hc0 with z1 z2 z3
    subst z1 z2 z3
    exact ⟨_, _, h1, hM2⟩
  · rw [if_neg hqi]
    exact ⟨B2, b2, h1, h2.upd' hU (fun k hk _ h_ => by subst h_; omega)⟩
/-- The cell of number i, its byte string, and how a change of it is put back. -/
theorem SK.get2 {A : Option Addr} {c : Nat} (h : SK w N own (.slice A ns.length c) ns f) {i : Nat} (hi : i < ns.length) : ∃ ad B b, A = some ad ∧ w.cell? (ad.add i) = some (.slice B ns[i] b) ∧ ns[i] ≤ b ∧ Mk w (.slice B ns[i] b) ns[i] N (fun k => own k = 3 + i) (f i) (mkb i) ∧
    ∀ (w' : World) (m : Nat), Upd w w' (fun k => own k = 3 + i) → Mk w' (.slice B ns[i] b) ns[i] N (fun k => own k = 3 + i) m (mkb i) → SK w' N own (.slice A ns.length c) ns (fun q => if q = i then m else f q) := by
  obtain ⟨rows, e, hr, hx⟩ := h.row
  obtain ⟨_, _, hC⟩ := Kd.R_reads' hr
  obtain ⟨B, b, h1, h2⟩ := hx i ns[i] (List.getElem?_eq_getElem hi)
  obtain ⟨ad, ha, hcell⟩ := hC.2.2 (by omega)
  obtain ⟨cs, hcl, ⟨rfl, _, _⟩, hcc⟩ := hcell i _ h1
  have hc0 := hcc 0 (.slice B ns[i] b) rfl
  rw [show i * (Kd.raw 1).sz + 0 = i from by show i * 1 + 0 = i; omega] at hc0
  refine ⟨ad, B, b, ha, hc0, ?_, h2, fun w' m hU hM => ⟨rows, e, Kd.R_step hr (fun k hk hlt => hU.block k hlt (by omega)), fun q n hq => ?_⟩⟩
  · rcases h2 with ⟨h0, e⟩ | ⟨g, cap, cur, e, _, _, _, h3, _⟩
    · rw [h0]; exact Nat.zero_le _
    · injection e with _ _ e3; omega
  · by_cases hqi : q = i
    · subst hqi
      rw [if_pos rfl]
      obtain rfl : n = ns[q] := by rw [List.getElem?_eq_getElem hi] at hq; exact (Option.some.inj hq).symm
      exact ⟨B, b, h1, hM⟩
    · rw [if_neg hqi]
      obtain ⟨B2, b2, h3, h4⟩ := hx q n hq
      exact ⟨B2, b2, h3, h4.upd' hU (fun k hk _ h_ => by omega)⟩
/-- The byte strings, full of their marks. -/
def full (ns : List Nat) : List (List Int) := (List.range ns.length).map (fun i => List.replicate (ns.getD i 0) (mkb i))
theorem full_len (ns : List Nat) : (full ns).length = ns.length := by simp [full]
theorem full_at (ns : List Nat) {i : Nat} (h : i < ns.length) : (full ns)[i]? = some (List.replicate ns[i] (mkb i)) := by simp [full, h]
theorem SK.reads {A : Option Addr} {c : Nat} (h : SK w N own (.slice A ns.length c) ns f) (hf : ∀ (i n : Nat), ns[i]? = some n → f i = n) : Kd.C (Kd.slice 5 By) w A (full ns).length (full ns) := by
  obtain ⟨rows, e, hr, hx⟩ := h.row
  obtain ⟨_, _, hC⟩ := Kd.R_reads' hr
  refine ⟨rfl, by rw [full_len]; have := hC.2.1; omega, fun hp => ?_⟩
  rw [full_len] at hp
  obtain ⟨ad, ha, hcell⟩ := hC.2.2 (by omega)
  refine ⟨ad, ha, fun j q hj => ?_⟩
  have hjl : j < ns.length := by have := (List.getElem?_eq_some_iff.1 hj).1; rw [full_len] at this; exact this
  rw [full_at ns hjl] at hj
  obtain rfl := Option.some.inj hj
  obtain ⟨B, b, h1, h2⟩ := hx j ns[j] (List.getElem?_eq_getElem hjl)
  obtain ⟨cs, hcl, ⟨rfl, _, _⟩, hcc⟩ := hcell j _ h1
  rw [hf j ns[j] (List.getElem?_eq_getElem hjl)] at h2
  obtain ⟨hF, hb⟩ := h2.reads
  refine ⟨_, hcl, ⟨B, b, ?_, ?_, ?_⟩, hcc⟩
  · rw [List.length_replicate]
  · rw [List.length_replicate]; exact hb
  · rw [List.length_replicate]; exact f_now hF
end
/-- What is laid behind the byte string of that number. -/
def trl (i : Nat) : List Int := List.replicate 64 (((i : Int) + 100) % 256)
/-- The longer ones: the first j. -/
structure LR (w : World) (N : Nat) (own : Nat → Nat) (v : Value) (ns : List Nat) (j : Nat) : Prop where
  row : ∃ rows : List (List Value), rows.length = j ∧ Kd.R (Kd.raw 1) 23 w N (fun k => own k = 2) v rows ∧ ∀ (i n : Nat), i < j → ns[i]? = some n → ∃ A c, rows[i]? = some ([.slice A (n + 64) c] : List Value) ∧ n + 64 ≤ c ∧ Kd.F By w (fun k => own k = 3 + i) A (n + 64) (List.replicate n (mkb i) ++ trl i)
section
variable {w w' : World} {N : Nat} {own own' : Nat → Nat} {v : Value} {ns : List Nat} {j : Nat} {S : Nat → Prop}
theorem LR.nil (w : World) (N : Nat) (own : Nat → Nat) (ns : List Nat) : LR w N own (.slice none 0 0) ns 0 := ⟨[], rfl, Kd.R_nil _ _ _ _ _, fun i n hi => by omega⟩
theorem LR.upd (h : LR w N own v ns j) (hu : Upd w w' S) (hS : ∀ k, k < w.heap.size → S k → own k < 2 ∨ 3 + j ≤ own k) : LR w' N own v ns j := by
  obtain ⟨rows, e, hr, hx⟩ := h.row
  refine ⟨rows, e, Kd.R_step hr (fun k hk hlt => hu.block k hlt (fun h_ => by have := hS k hlt h_; omega)), fun i n hi hn => ?_⟩
  obtain ⟨A, c, h1, h2, h3⟩ := hx i n hi hn
  exact ⟨A, c, h1, h2, f_upd h3 hu (fun k hk hlt h_ => by have := hS k hlt h_; omega)⟩
theorem LR.next (h : LR w N own v ns j) (hb : Below w.heap.size w w') : LR w' N own v ns j := h.upd (Upd.of_below hb (fun _ => False)) (fun _ _ h_ => h_.elim)
theorem LR.owned (h : LR w N own v ns j) (ho : ∀ k, k < w.heap.size → own' k = own k) : LR w N own' v ns j := by
  obtain ⟨rows, e, hr, hx⟩ := h.row
  refine ⟨rows, e, Kd.R_mono (Kd.R_bound hr) (fun k hk => (ho k hk.2.2.1).trans hk.1), fun i n hi hn => ?_⟩
  obtain ⟨A, c, h1, h2, h3⟩ := hx i n hi hn
  exact ⟨A, c, h1, h2, f_bd h3 (fun k hk hlt => (ho k hlt).trans hk)⟩
theorem LR.slice (h : LR w N own v ns j) : ∃ A c, v = .slice A j c ∧ j ≤ c := by
  obtain ⟨rows, e, hr, hx⟩ := h.row
  obtain ⟨A, c, rfl, hc, _⟩ := Kd.R_reads hr
  exact ⟨A, c, by rw [e], by omega⟩
theorem LR.get {A : Option Addr} {c : Nat} (h : LR w N own (.slice A j c) ns j) {i : Nat} (hi : i < j) (hn : i < ns.length) : ∃ ad B b, A = some ad ∧ w.cell? (ad.add i) = some (.slice B (ns[i] + 64) b) ∧ ns[i] + 64 ≤ b ∧ Kd.C By w B (ns[i] + 64) (List.replicate ns[i] (mkb i) ++ trl i) := by
  obtain ⟨rows, e, hr, hx⟩ := h.row
  obtain ⟨_, _, hC⟩ := Kd.R_reads' hr
  obtain ⟨B, b, h1, h2, h3⟩ := hx i ns[i] hi (List.getElem?_eq_getElem hn)
  obtain ⟨ad, ha, hcell⟩ := hC.2.2 (by omega)
  obtain ⟨cs, hcl, ⟨rfl, _, _⟩, hcc⟩ := hcell i _ h1
  have hc0 := hcc 0 (.slice B (ns[i] + 64) b) rfl
  rw [show i * (Kd.raw 1).sz + 0 = i from by show i * 1 + 0 = i; omega] at hc0
  exact ⟨ad, B, b, ha, hc0, h2, f_now h3⟩
end
/-- A round of the second loop: a tail laid behind number j, the longer one kept. -/
theorem told_round {w wr w6 w7 w9 : World} {N n j c' bl : Nat} {own own' : Nat → Nat} {v v9 : Value} {ns : List Nat} {f : Nat → Nat} {Bl A' : Option Addr} {lrows : List (List Value)}
    (H7 : Upd w6 w7 (fun k => own' k = 3 + j) → SK w7 N own' v ns f) (hb6 : Below wr.heap.size wr w6) (hU7 : Upd w6 w7 (fun k => own' k = 3 + j)) (hg9 : w7.grownBy w9 (Value.slice Bl j bl).ownBlock)
    (hlr : lrows.length = j) (hR : Kd.R (Kd.raw 1) 23 wr N (fun k => own' k = 2) (.slice Bl j bl) lrows) (hLx : ∀ (i n : Nat), i < j → ns[i]? = some n → ∃ A c, lrows[i]? = some ([.slice A (n + 64) c] : List Value) ∧ n + 64 ≤ c ∧ Kd.F By wr (fun k => own' k = 3 + i) A (n + 64) (List.replicate n (mkb i) ++ trl i))
    (hc7 : n + 64 ≤ c') (hF7 : Kd.F By w7 (fun k => own' k = 3 + j ∨ w6.heap.size ≤ k) A' (n + 64) (List.replicate n (mkb j) ++ trl j)) (hr9 : Kd.R (Kd.raw 1) 23 w9 N (fun k => own' k = 2 ∨ w7.heap.size ≤ k) v9 (lrows ++ [([.slice A' (n + 64) c'] : List Value)]))
    (hn : ns[j]? = some n) (hx : ∀ k, own' k ≠ 0 → k < wr.heap.size) (ho : ∀ k, k < w.heap.size → own' k = own k) (hU : Upd w wr (fun k => 3 ≤ own k)) (h2 : ∀ k, own k ≠ 2) :
    ∃ own'', SK w9 N own'' v ns f ∧ LR w9 N own'' v9 ns (j + 1) ∧ (∀ k, k < w.heap.size → own'' k = own k) ∧ Upd w w9 (fun k => 3 ≤ own k) ∧ (∀ k, own'' k ≠ 0 → k < w9.heap.size) := by
  have hs6 := hb6.size
  have hs7 := hU7.size
  have hU9 : Upd w7 w9 (fun k => own' k = 2) := (Upd.refl w7 _).grown hg9 (fun k hk _ => hR.1 k hk)
  have hs9 := hU9.size
  have hH := H7 hU7
  have hU69 : Upd w6 w9 (fun k => own' k = 3 + j ∨ own' k = 2) := (hU7.mono (fun k _ h => .inl h)).then_ hU9 (fun k _ h => .inr h)
  have hUr9 : Upd wr w9 (fun k => own' k = 3 + j ∨ own' k = 2) := (Upd.of_below hb6 _).then_ hU69 (fun k _ h => h)
  refine ⟨fun k => if k < wr.heap.size then own' k else if k < w7.heap.size then 3 + j else if k < w9.heap.size then 2 else 0, ?_, ⟨lrows ++ [[.slice A' (n + 64) c']], by simp [hlr], ?_, fun i m hi hm => ?_⟩, fun k hk => ?_, hU.then_ hUr9 (fun k hk h => ?_), fun k hk => ?_⟩
  · have h7 := hH.upd hU9 (fun k _ h_ => .inr h_)
    obtain ⟨rows, e, hr, hx2⟩ := h7.row
    refine ⟨rows, e, Kd.R_mono hr (fun k hk => ?_), fun i m hi => ?_⟩
    · rw [if_pos (hx k (by omega))]; exact hk
    · obtain ⟨B, b, q1, q2⟩ := hx2 i m hi
      refine ⟨B, b, q1, q2.own (fun k hk _ => ?_)⟩
      rw [if_pos (hx k (by omega))]; exact hk
  · refine Kd.R_mono (Kd.R_bound hr9) (fun k hk => ?_)
    rcases hk.1 with h_ | h_
    · rw [if_pos (hx k (by omega))]; exact h_
    · rw [if_neg (by omega), if_neg (by omega), if_pos hk.2.2.1]
  · by_cases hij : i < j
    · obtain ⟨B, b, q1, q2, q3⟩ := hLx i m hij hm
      refine ⟨B, b, by rw [List.getElem?_append_left (by omega)]; exact q1, q2, f_mono (f_upd q3 hUr9 (fun k hk _ h_ => by omega)) (fun k hk => ?_)⟩
      rw [if_pos (hx k (by omega))]; exact hk
    · obtain rfl : i = j := by omega
      obtain rfl : m = n := by rw [hn] at hm; exact (Option.some.inj hm).symm
      refine ⟨A', c', by rw [List.getElem?_append_right (by omega), hlr, Nat.sub_self]; rfl, hc7, f_bd (f_upd (S := fun k => own' k = 2) (f_bd hF7 (ok' := fun k => (own' k = 3 + i ∨ w6.heap.size ≤ k) ∧ k < w7.heap.size) (fun k hk hlt => ⟨hk, hlt⟩)) hU9 (fun k hk _ h_ => ?_)) (fun k hk hlt => ?_)⟩
      · rcases hk.1 with h3 | h3
        · omega
        · have := hx k (by omega); omega
      · rcases hk.1 with h3 | h3
        · rw [if_pos (hx k (by omega))]; exact h3
        · by_cases hkr : k < wr.heap.size
          · omega
          · rw [if_neg hkr, if_pos hk.2]
  · dsimp only; rw [if_pos (by have := hU.size; omega)]; exact ho k hk
  · rcases h with h | h
    · rw [ho k hk] at h; omega
    · rw [ho k hk] at h; exact absurd h (h2 k)
  · by_cases a1 : k < wr.heap.size
    · omega
    · by_cases a2 : k < w7.heap.size
      · omega
      · by_cases a3 : k < w9.heap.size
        · exact a3
        · dsimp only at hk; rw [if_neg a1, if_neg a2, if_neg a3] at hk; exact absurd rfl hk
end Go.Proofs.YtgfjmpnlkjocaaaDoor.J
