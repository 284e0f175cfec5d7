/- WireBackNumbers: of all arguments (of bulk up to the bound) the law's answer is true: behind any bytes and ahead of any, what was told is read back, and the place behind it. -/
import Derived.Test.YtebjppnggjnghaaHWireC
import Derived.Test.YtebjppnggjnghaaHx17
namespace Go.Proofs.Ytebjppnggjnghaa.H
open Go.RowKit Go.Proofs.YtebjppnggjnghaaW.PrintWords Go.Proofs.YtebjppnggjnghaaW.PrintLast Go.Proofs.YtebjppnggjnghaaW.PrintMore
set_option linter.unusedVariables false
set_option linter.unusedSimpArgs false

theorem str_back (s : ByteArray) : strOfNums (bytesOf s) = s := by
  unfold strOfNums bytesOf
  rw [List.map_map]
  have : ((fun n : Int => UInt8.ofNat n.toNat) ∘ fun b : UInt8 => (b.toNat : Int)) = id := by funext b; simp
  rw [this, List.map_id]
theorem bytes_byte (s : ByteArray) : ∀ b ∈ bytesOf s, 0 ≤ b ∧ b ≤ 255 := by
  intro b hb
  obtain ⟨c, _, rfl⟩ := List.mem_map.1 hb
  have := c.toNat_lt
  omega
theorem At.get {l s : List Int} {a b : Int} (h : At l a (b :: s)) : rd l a = b ∧ a < l.length := by
  have hl := h.len (by simp)
  rw [List.length_cons] at hl
  have h1 := h.seg 1 (by simp)
  have h0 := h.1
  obtain ⟨_, r, h⟩ := h
  refine ⟨?_, by omega⟩
  have := congrArg (·[0]?) h
  simp only [List.getElem?_drop, List.cons_append, List.getElem?_cons_zero, Nat.add_zero] at this
  unfold rd
  rw [List.getD_eq_getElem?_getD, this]; rfl
theorem bool_at {l s : List Int} {a : Int} {z : Bool} (hl : l.length ≤ 100000000) (h : At l a ((if z then 1 else 0) :: s)) : wire_Bool.f l a = some (z, a + 1, true) := by
  have h1 := h.get
  have h0 := h.1
  unfold wire_Bool.f
  rw [if_neg (by omega), if_neg (by omega), if_pos (by omega), if_pos (by omega), h1.1, pl_w64 (by omega) (by omega)]
  cases z <;> simp
theorem text_at {l r : List Int} {a : Int} {s : ByteArray} (hb : ∀ y ∈ l, 0 ≤ y ∧ y ≤ 255) (hl : l.length ≤ 100000000) (hs : s.size ≤ 1048576) (k : Nat) (hk : 60 < k)
    (h : At l a ((enc 10 (s.size : Int) ++ bytesOf s) ++ r)) : wire_Text.f k l a = some (s, a + ((enc 10 (s.size : Int) ++ bytesOf s).length : Int), true) := by
  have hlen := enc_ten (s.size : Int) (by omega) (by omega)
  have hle := h.left.len (by intro e; rw [List.append_eq_nil_iff] at e; rw [e.1] at hlen; simp at hlen)
  have h0 := h.1
  rw [List.length_append, bytesOf_length] at hle
  unfold wire_Text.f
  rw [uint_at hb (by omega) (by omega) (by omega) (by omega) h.left.left, Option.bind_some, if_pos rfl]
  dsimp only
  have hr := h.left.right
  rw [pl_w64 (x := (s.size : Int)) (by omega) (by omega), pl_w64 (x := (l.length : Int) - _) (by omega) (by omega), pl_u64 (by omega) (by omega), if_neg (by omega), pl_w64 (by omega) (by omega), if_pos (by omega), if_pos (by omega), if_pos (by omega)]
  obtain ⟨_, q, hq⟩ := hr
  have e : (l.take (a + ((enc 10 (s.size : Int)).length : Int) + (s.size : Int)).toNat).drop (a + ((enc 10 (s.size : Int)).length : Int)).toNat = bytesOf s := by
    rw [List.drop_take, hq, show (a + ((enc 10 (s.size : Int)).length : Int) + (s.size : Int)).toNat - (a + ((enc 10 (s.size : Int)).length : Int)).toNat = (bytesOf s).length from by rw [bytesOf_length]; omega, List.take_left]
  rw [e, str_back, List.length_append, bytesOf_length]
  congr 3
  omega
def WireBackNumbers_Pure : Prop := ∀ (l0 : List Int) (a1 : Int) (a2 : Int) (a3 : Bool) (a4 : ByteArray) (l5 : List Int) (l6 : List Int), ((∀ x_ ∈ l0, (Lit.int .u8 x_).wf = true) ∧ l0.length * 1 ≤ 140737488351232 ∧ l0.length ≤ 1048576) → ((Lit.int .u64 a1).wf = true) → ((Lit.int .i64 a2).wf = true) → (a4.size ≤ 140737488351232 ∧ a4.size ≤ 1048576) → ((∀ x_ ∈ l5, (Lit.int .i64 x_).wf = true) ∧ l5.length * 8 ≤ 140737488351232 ∧ l5.length ≤ 1048576) → ((∀ x_ ∈ l6, (Lit.int .u8 x_).wf = true) ∧ l6.length * 1 ≤ 140737488351232 ∧ l6.length ≤ 1048576) → ∃ k, arrearslaw4_WireBackNumbers.f k l0 a1 a2 a3 a4 l5 l6 = some true
theorem WireBackNumbers_pure : WireBackNumbers_Pure := by
  intro l0 a1 a2 a3 a4 l5 l6 h0 h1 h2 h4 h5 h6
  have b0 : ∀ x ∈ l0, 0 ≤ x ∧ x ≤ 255 := fun x hx => by simpa [Lit.wf, IntKind.min, IntKind.max, IntKind.bits, IntKind.signed] using h0.1 x hx
  have b6 : ∀ x ∈ l6, 0 ≤ x ∧ x ≤ 255 := fun x hx => by simpa [Lit.wf, IntKind.min, IntKind.max, IntKind.bits, IntKind.signed] using h6.1 x hx
  have w5 : ∀ x ∈ l5, -9223372036854775808 ≤ x ∧ x ≤ 9223372036854775807 := fun x hx => by simpa [Lit.wf, IntKind.min, IntKind.max, IntKind.bits, IntKind.signed] using h5.1 x hx
  have r1 : 0 ≤ a1 ∧ a1 ≤ 18446744073709551615 := by simpa [Lit.wf, IntKind.min, IntKind.max, IntKind.bits, IntKind.signed] using h1
  have r2 : -9223372036854775808 ≤ a2 ∧ a2 ≤ 9223372036854775807 := by simpa [Lit.wf, IntKind.min, IntKind.max, IntKind.bits, IntKind.signed] using h2
  have n0 := h0.2.2
  have n4 := h4.2
  have n5 := h5.2.2
  have n6 := h6.2.2
  have z2 := zig_range a2 r2.1 r2.2
  have e1 := enc_ten a1 r1.1 r1.2
  have e2 := enc_ten (zig a2) z2.1 z2.2
  have e4 := enc_ten (a4.size : Int) (by omega) (by omega)
  have e5 := enc_ten (l5.length : Int) (by omega) (by omega)
  have t5 := tells_len l5 w5
  have s4 := bytesOf_length a4
  generalize hU : enc 10 a1 = U at *
  generalize hI : enc 10 (zig a2) = I at *
  generalize hT0 : enc 10 (a4.size : Int) = T0 at *
  generalize hL0 : enc 10 (l5.length : Int) = L0 at *
  have hbool : wire_PutBool.f a3 = some [if a3 then 1 else 0] := by cases a3 <;> rfl
  have htext : wire_PutText.f a4 = some (T0 ++ bytesOf a4) := by
    unfold wire_PutText.f
    rw [pl_u64 (x := (a4.size : Int)) (by omega) (by omega), put_prog _ (by omega) (by omega), hT0, Option.bind_some, if_pos (by omega)]
  refine ⟨l0.length + l5.length + 200, ?_⟩
  have hints : wire_PutInts.f (l0.length + l5.length + 200) l5 = some (L0 ++ tells l5) := by
    unfold wire_PutInts.f
    rw [putlist_is l5 w5 n5 _ (by omega) 0, hL0]; rfl
  obtain ⟨Y, hY⟩ : ∃ Y, Y = l0 ++ U ++ I ++ [if a3 then 1 else 0] ++ (T0 ++ bytesOf a4) ++ (L0 ++ tells l5) ++ l6 := ⟨_, rfl⟩
  have hat : At Y (l0.length : Int) (U ++ (I ++ ([if a3 then 1 else 0] ++ ((T0 ++ bytesOf a4) ++ ((L0 ++ tells l5) ++ l6))))) := by
    refine ⟨by omega, [], ?_⟩
    rw [hY, show ((l0.length : Int)).toNat = l0.length from by omega]
    simp only [List.append_assoc, List.drop_left, List.append_nil]
  have hYb : ∀ y ∈ Y, 0 ≤ y ∧ y ≤ 255 := by
    intro y hy
    rw [hY] at hy
    simp only [List.mem_append, List.mem_singleton] at hy
    rcases hy with (((((hy | hy) | hy) | hy) | (hy | hy)) | (hy | hy)) | hy
    · exact b0 y hy
    · rw [← hU] at hy; exact enc_byte 10 _ r1.1 y hy
    · rw [← hI] at hy; exact enc_byte 10 _ z2.1 y hy
    · rw [hy]; cases a3 <;> simp
    · rw [← hT0] at hy; exact enc_byte 10 _ (by omega) y hy
    · exact bytes_byte a4 y hy
    · rw [← hL0] at hy; exact enc_byte 10 _ (by omega) y hy
    · exact tells_byte l5 w5 y hy
    · exact b6 y hy
  have hYl : Y.length ≤ 100000000 := by rw [hY]; simp only [List.length_append, List.length_singleton]; omega
  have p1 := uint_at (k := l0.length + l5.length + 200) hYb (by omega) r1.1 r1.2 (by omega) (by rw [hU]; exact hat.left)
  have hat2 := hat.right
  have p2 := int_at (k := l0.length + l5.length + 199) hYb (by omega) r2.1 r2.2 (by omega) (by rw [hI]; exact hat2.left)
  have hat3 := hat2.right
  have p3 := bool_at hYl hat3
  have hat4 := hat3.right
  have p4 := text_at (r := (L0 ++ tells l5) ++ l6) hYb hYl n4 (l0.length + l5.length + 197) (by omega) (by rw [hT0]; exact hat4)
  have hat5 := hat4.right
  have p5 := list_at Y l5 hYb hYl w5 n5 (l0.length + l5.length + 196) (by omega) _ 0 (by rw [hL0]; exact hat5.left)
  rw [hU] at p1
  rw [hI] at p2
  rw [hT0] at p4
  rw [hL0] at p5
  unfold arrearslaw4_WireBackNumbers.f
  rw [copied_is l0 (by omega) _ (by omega), Option.bind_some, put_prog a1 r1.1 r1.2, hU, Option.bind_some, if_pos (by omega), Option.bind_some, putint_prog a2 r2.1 r2.2, hI, Option.bind_some, if_pos (by simp only [List.length_append]; omega), Option.bind_some, hbool, Option.bind_some,
    if_pos (by simp only [List.length_append, List.length_singleton]; omega), Option.bind_some, htext, Option.bind_some, if_pos (by simp only [List.length_append, List.length_singleton]; omega), Option.bind_some, nums_is l5 n5, Option.bind_some, hints, Option.bind_some,
    if_pos (by simp only [List.length_append, List.length_singleton]; omega), Option.bind_some, if_pos (by simp only [List.length_append, List.length_singleton]; omega), Option.bind_some, ← hY, p1, Option.bind_some, if_pos rfl]
  dsimp only
  simp only [arrearslaw4_WireBackNumbers.j0]
  rw [if_neg (by simp), p2, Option.bind_some, if_pos rfl]
  dsimp only
  simp only [arrearslaw4_WireBackNumbers.j1]
  rw [if_neg (by simp), p3, Option.bind_some, if_pos rfl]
  dsimp only
  simp only [arrearslaw4_WireBackNumbers.j2]
  rw [if_neg (by simp), show (l0.length : Int) + (U.length : Int) + (I.length : Int) + 1 = (l0.length : Int) + (U.length : Int) + (I.length : Int) + (([if a3 then 1 else 0] : List Int).length : Int) from by simp, p4, Option.bind_some, if_pos rfl]
  dsimp only
  simp only [arrearslaw4_WireBackNumbers.j3]
  unfold wire_Ints.f
  rw [if_neg (by simp), p5, Option.bind_some, Option.bind_some, if_pos rfl]
  dsimp only
  rw [if_pos (by simp only [List.length_append, List.length_singleton]; omega), sameNums_self l5 n5 _ (by omega)]
  rfl
end Go.Proofs.Ytebjppnggjnghaa.H
