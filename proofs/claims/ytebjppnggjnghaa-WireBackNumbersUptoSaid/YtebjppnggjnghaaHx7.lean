-- Written by stubprint.py (wip/) of this work, over the kit's print.py; parts by hand.
import Derived.Test.YtebjppnggjnghaaHx0
import Derived.Test.YtebjppnggjnghaaHx3
import Derived.Test.YtebjppnggjnghaaHx6
namespace Go.Proofs.Ytebjppnggjnghaa.H
open Go.RowKit Go.Proofs.YtebjppnggjnghaaW.PrintWords Go.Proofs.YtebjppnggjnghaaW.PrintLast Go.Proofs.YtebjppnggjnghaaW.PrintMore
attribute [local go_sem] max2_int min2_int max_two min_two max_three min_three max_four min_four   -- for this text's walks alone
set_option linter.unusedVariables false
set_option linter.unusedSimpArgs false

/-! ### arrearsref4_Uint: function 20 (by hand) -/
/-- What groups of seven bits come to. -/
def arrearsref4_Uint.dec : List Int → Int
  | [] => 0
  | b :: r => b % 128 + 128 * arrearsref4_Uint.dec r
def arrearsref4_Uint.val (s : List Int) : Int := arrearsref4_Uint.dec s % 18446744073709551616
def arrearsref4_Uint.seg (l : List Int) (a1 : Int) (n : Nat) : List Int := (l.drop a1.toNat).take n
/-- Do the n bytes at the place tell a number? -/
def arrearsref4_Uint.hit (l : List Int) (a1 : Int) (n : Nat) : Prop := arrearsref4_PutUint.f 20 (arrearsref4_Uint.val (arrearsref4_Uint.seg l a1 n)) = some (arrearsref4_Uint.seg l a1 n)
instance (l : List Int) (a1 : Int) (n : Nat) : Decidable (arrearsref4_Uint.hit l a1 n) := by unfold arrearsref4_Uint.hit; infer_instance
def arrearsref4_Uint.search (l : List Int) (a1 : Int) : Nat → Nat → Int × Int × Bool
  | 0, _ => (0, 0, false)
  | d + 1, n => if n ≤ 10 ∧ (n : Int) ≤ l.length - a1 then (if arrearsref4_Uint.hit l a1 n then (arrearsref4_Uint.val (arrearsref4_Uint.seg l a1 n), a1 + n, true) else arrearsref4_Uint.search l a1 d (n + 1)) else (0, 0, false)
def arrearsref4_Uint.f (l : List Int) (a1 : Int) : Option (Int × Int × Bool) := if (∀ x ∈ l, 0 ≤ x ∧ x ≤ 255) then some (if a1 < 0 ∨ a1 > l.length then (0, 0, false) else arrearsref4_Uint.search l a1 11 1) else none
theorem arrearsref4_Uint.value_loop (l : List Int) (hb : ∀ x ∈ l, 0 ≤ x ∧ x ≤ 255) (hl : l.length ≤ 1000) : ∀ (i k : Nat), i ≤ l.length → i < k → arrearsref4_value.l0 k l (arrearsref4_Uint.dec (l.drop i) % 18446744073709551616) ((i : Int) - 1) = some (arrearsref4_Uint.val l) := by
  intro i
  induction i with
  | zero =>
    intro k _ hk
    obtain ⟨k, rfl⟩ : ∃ m, k = m + 1 := ⟨k - 1, by omega⟩
    simp only [arrearsref4_value.l0]
    rw [if_neg (by omega)]; rfl
  | succ i ih =>
    intro k hi hk
    obtain ⟨k, rfl⟩ : ∃ m, k = m + 1 := ⟨k - 1, by omega⟩
    have e : (((i + 1 : Nat) : Int) - 1) = (i : Int) := by omega
    have hr : rd l (i : Int) = l[i] := by unfold rd; simp [show i < l.length from by omega]
    have hx := hb l[i] (List.getElem_mem _)
    have hd : l.drop i = l[i] :: l.drop (i + 1) := List.drop_eq_getElem_cons (by omega)
    simp only [arrearsref4_value.l0]
    rw [e, if_pos (by omega), if_pos (by omega), if_pos (by omega), hr, Hand.u64_wrap, Hand.u64_wrap, Hand.u64_wrap, Int.tmod_eq_emod_of_nonneg hx.1, show wrap64 ((i : Int) - 1) = (i : Int) - 1 from by unfold wrap64; omega]
    have := ih k (by omega) (by omega)
    rw [hd, arrearsref4_Uint.dec] at this
    rw [← this]
    congr 1
    omega
theorem arrearsref4_Uint.value_is (l : List Int) (hb : ∀ x ∈ l, 0 ≤ x ∧ x ≤ 255) (hl : l.length ≤ 1000) : arrearsref4_value.f 2000 l = some (arrearsref4_Uint.val l) := by
  unfold arrearsref4_value.f
  rw [show wrap64 ((l.length : Int) - 1) = (l.length : Int) - 1 from by unfold wrap64; omega]
  have := arrearsref4_Uint.value_loop l hb hl l.length 2000 (Nat.le_refl _) (by omega)
  rw [List.drop_length] at this
  simpa [arrearsref4_Uint.dec] using this
theorem arrearsref4_Uint.same_loop (a b : List Int) (hl : a.length = b.length) (hm : a.length ≤ 1000) (d : Nat) : ∀ (k i : Nat), i + d = a.length → d < k → arrearsref4_same.l0 k a b (i : Int) = some (decide (a.drop i = b.drop i)) := by
  induction d with
  | zero =>
    intro k i hi hk
    obtain ⟨k, rfl⟩ : ∃ m, k = m + 1 := ⟨k - 1, by omega⟩
    simp only [arrearsref4_same.l0]
    rw [if_neg (by omega), List.drop_eq_nil_of_le (by omega), List.drop_eq_nil_of_le (by omega)]; rfl
  | succ d ih =>
    intro k i hi hk
    obtain ⟨k, rfl⟩ : ∃ m, k = m + 1 := ⟨k - 1, by omega⟩
    have ea : a.drop i = rd a (i : Int) :: a.drop (i + 1) := by rw [show rd a (i : Int) = a[i] from by unfold rd; simp [show i < a.length from by omega]]; exact List.drop_eq_getElem_cons (by omega)
    have eb : b.drop i = rd b (i : Int) :: b.drop (i + 1) := by rw [show rd b (i : Int) = b[i] from by unfold rd; simp [show i < b.length from by omega]]; exact List.drop_eq_getElem_cons (by omega)
    simp only [arrearsref4_same.l0]
    rw [if_pos (by omega), if_pos (by omega), if_pos (by omega), show wrap64 ((i : Int) + 1) = ((i + 1 : Nat) : Int) from by unfold wrap64; omega, ih k (i + 1) (by omega) (by omega), ea, eb]
    by_cases c : rd a (i : Int) = rd b (i : Int)
    · rw [if_pos c]; simp [c]
    · rw [if_neg c]; simp [c]
theorem arrearsref4_Uint.same_is (a b : List Int) (hm : a.length ≤ 1000) : arrearsref4_same.f 2000 a b = some (decide (a = b)) := by
  unfold arrearsref4_same.f
  by_cases c : (a.length : Int) = (b.length : Int)
  · rw [if_pos c, show arrearsref4_same.l0 2000 a b 0 = _ from arrearsref4_Uint.same_loop a b (by omega) hm a.length 2000 0 (by omega) (by omega)]; rfl
  · rw [if_neg c, decide_eq_false (fun h => c (by rw [h]))]
theorem arrearsref4_Uint.put_ends : ∀ (d : Nat) (x : Int) (acc : List Int), 0 ≤ x → x < 128 ^ (d + 1) → acc.length + d ≤ 1000 → ∃ r, arrearsref4_PutUint.l0 (d + 1) x acc = some r ∧ r.length ≤ acc.length + d + 1 := by
  intro d
  induction d with
  | zero =>
    intro x acc h0 h1 hl
    simp only [arrearsref4_PutUint.l0]
    rw [Nat.zero_add, Int.pow_succ, Int.pow_zero] at h1
    rw [if_neg (by omega), if_pos (by omega)]
    exact ⟨_, rfl, by simp⟩
  | succ d ih =>
    intro x acc h0 h1 hl
    have hq : x / 128 < 128 ^ (d + 1) := Int.ediv_lt_of_lt_mul (by omega) (by rwa [← Int.pow_succ])
    simp only [arrearsref4_PutUint.l0]
    by_cases c : x > 127
    · rw [if_pos c, if_pos (by omega)]
      have hw : IntKind.u64.wrap (Int.tdiv x 128) ≤ x / 128 ∧ 0 ≤ IntKind.u64.wrap (Int.tdiv x 128) := by rw [Hand.u64_wrap, Int.tdiv_eq_ediv_of_nonneg h0]; omega
      obtain ⟨r, hr, hrl⟩ := ih (IntKind.u64.wrap (Int.tdiv x 128)) (acc ++ [(IntKind.u64.wrap ((Int.tmod x 128) + 128)) % 256]) hw.2 (Int.lt_of_le_of_lt hw.1 hq) (by simp; omega)
      exact ⟨r, hr, by simp at hrl; omega⟩
    · rw [if_neg c, if_pos (by omega)]
      exact ⟨_, rfl, by rw [List.length_append, List.length_singleton]; omega⟩
theorem arrearsref4_Uint.put_is (x : Int) (h0 : 0 ≤ x) (h1 : x < 18446744073709551616) : ∃ r, arrearsref4_PutUint.f 20 x = some r ∧ r.length ≤ 1000 := by
  unfold arrearsref4_PutUint.f
  have e : (18446744073709551616 : Int) ≤ 128 ^ (19 + 1) := by decide
  obtain ⟨r, hr, hl⟩ := arrearsref4_Uint.put_ends 19 x [] h0 (Int.lt_of_lt_of_le h1 e) (by simp)
  exact ⟨r, hr, by simp at hl; omega⟩
set_option maxRecDepth 100000 in
set_option maxHeartbeats 2000000 in
theorem arrearsref4_Uint.calls (A0 : Option Addr) (c0 : Nat) (l0 : List Int) (a1 : Int) (r1 : Int) (r2 : Int) (r3 : Bool) (w : World) (hr0 : Kd.C (Kd.int .u8) w A0 l0.length l0) (hc0 : l0.length ≤ c0) (h : arrearsref4_Uint.f l0 a1 = some (r1, r2, r3)) :
    Calls Try.prog 20 #[.slice A0 l0.length c0, .int .i64 a1] w fun e w' => e = .returned (.tuple #[.int .u64 r1, .int .i64 r2, .bool r3]) ∧ Below w.heap.size w w' := by
  have HR := Aside0.mk hr0
  have HC := Aside0.mk hc0
  have hmax := hr0.2.1
  unfold arrearsref4_Uint.f at h
  split at h
  case isFalse => cases h
  rename_i hb
  have HBy := Aside0.mk hb
  replace h := Option.some.inj h
  clear hr0 hc0 hb
  have fin : ∀ (e : Ending) (w' : World), (e = .returned (.tuple #[.int .u64 0, .int .i64 0, .bool false]) ∧ Below w.heap.size w w') → (0, 0, false) = (r1, r2, r3) → e = .returned (.tuple #[.int .u64 r1, .int .i64 r2, .bool r3]) ∧ Below w.heap.size w w' := by
    rintro e w' ⟨rfl, hb⟩ he
    injection he with e1 e2
    injection e2 with e2 e3
    subst e1 e2 e3
    exact ⟨rfl, hb⟩
  have FIN := Lib.hid fin
  clear fin
  by_cases g0 : a1 < 0
  · rw [if_pos (.inl g0)] at h
    have hd := decide_eq_true g0
    have HH := Aside0.mk h
    clear h g0
    go_enter Try.func20, Try.ntmps20
    go_wp2
    go_ret3
    exact FIN.out _ _ ⟨rfl, Below.refl _ _⟩ HH.out
  · have hd := decide_eq_false g0
    by_cases g1 : a1 > l0.length
    · rw [if_pos (.inr g1)] at h
      have hd1 : decide ((l0.length : Int) < a1) = true := decide_eq_true (by omega)
      have HH := Aside0.mk h
      clear h g0 g1
      go_enter Try.func20, Try.ntmps20
      go_wp2
      go_ret3
      exact FIN.out _ _ ⟨rfl, Below.refl _ _⟩ HH.out
    · rw [if_neg (fun h => h.elim g0 g1)] at h
      have hd1 : decide ((l0.length : Int) < a1) = false := decide_eq_false (by omega)
      have HH := Aside0.mk h
      have a0 : 0 ≤ a1 := by omega
      have a2 : a1 ≤ l0.length := by omega
      clear h g0 g1
      go_enter Try.func20, Try.ntmps20
      go_wp2
      go_loopw [7] (fun i wr => ∃ (n d : Nat), n + d = 12 ∧ 1 ≤ n ∧ i = .int .i64 n ∧ Aside0 (arrearsref4_Uint.search l0 a1 d n = (r1, r2, r3)) ∧ Aside0 (Below w.heap.size w wr)) (fun i _ => 12 - (intOf i).toNat)
      case atStart => exact ⟨1, 11, rfl, by omega, rfl, HH, ⟨Below.refl _ _⟩⟩
      case round =>
        obtain ⟨n, d, hnd, h1, rfl, HS, HB⟩ := hrel
        cases d with
        | zero =>
          have hS := HS.out
          simp only [arrearsref4_Uint.search] at hS
          have HS2 := Aside0.mk hS
          have hd2 : decide ((n : Int) ≤ 10) = false := decide_eq_false (by omega)
          clear hS
          go_wp2
          go_ret3
          exact FIN.out _ _ ⟨rfl, HB.out⟩ HS2.out
        | succ d =>
          have hS := HS.out
          simp only [arrearsref4_Uint.search] at hS
          by_cases c1 : n ≤ 10 ∧ (n : Int) ≤ l0.length - a1
          · rw [if_pos c1] at hS
            obtain ⟨g1, g2⟩ := c1
            have hd2 : decide ((n : Int) ≤ 10) = true := decide_eq_true (by omega)
            have hd3 : decide ((n : Int) ≤ (l0.length : Int) - a1) = true := decide_eq_true (by omega)
            obtain ⟨i0, hi0, _, hsz0, _⟩ := info_parts info5
            obtain ⟨A', hcut, hA', hC'⟩ := print_mid_of (P := Try.prog) (Value.int .u8) 0 25 5 .i64 .i64 Try.underlying25 hi0 hsz0 A0 c0 l0 a1 (a1 + n) a0 (by omega) (by omega) HC.out
            have hseg : (l0.take (a1 + n).toNat).drop a1.toNat = arrearsref4_Uint.seg l0 a1 n := by
              unfold arrearsref4_Uint.seg
              rw [List.drop_take]; congr 1; omega
            have hrd := Kd.C_of_reads (h1 := fun _ => rfl) (hA' _ (Kd.reads_of_C (Kd.C_below HR.out HB.out)))
            rw [hseg] at hcut hrd hC'
            have hsl : (arrearsref4_Uint.seg l0 a1 n).length = n := by unfold arrearsref4_Uint.seg; rw [List.length_take, List.length_drop]; omega
            have hsb : ∀ x ∈ arrearsref4_Uint.seg l0 a1 n, 0 ≤ x ∧ x ≤ 255 := fun x hx => HBy.out x (List.mem_of_mem_drop (List.mem_of_mem_take hx))
            obtain ⟨sg, esg⟩ : ∃ sg, sg = arrearsref4_Uint.seg l0 a1 n := ⟨_, rfl⟩
            rw [← esg] at hcut hrd hC' hsl hsb
            have hv := arrearsref4_Uint.value_is sg hsb (by omega)
            obtain ⟨t, ht, htl⟩ := arrearsref4_Uint.put_is (arrearsref4_Uint.val sg) (by unfold arrearsref4_Uint.val; omega) (by unfold arrearsref4_Uint.val; omega)
            have hsm := arrearsref4_Uint.same_is t sg htl
            have hhit : arrearsref4_Uint.hit l0 a1 n ↔ t = sg := by unfold arrearsref4_Uint.hit; rw [← esg, ht]; exact ⟨fun h => Option.some.inj h, fun h => by rw [h]⟩
            rw [← esg] at hS
            obtain ⟨V, eV⟩ : ∃ V, V = arrearsref4_Uint.val sg := ⟨_, rfl⟩
            rw [← eV] at hS hv ht
            have HRd := Aside0.mk hrd
            have HCl := Aside0.mk hC'
            have HV := Aside0.mk hv
            have HT := Aside0.mk ht
            have HSm := Aside0.mk hsm
            clear hrd hC' hv ht hsm hseg hA' hsz0 hi0 esg eV hsl hsb htl
            by_cases c3 : t = sg
            · rw [if_pos (hhit.2 c3)] at hS
              injection hS with q1 q2
              injection q2 with q2 q3
              have hdt : decide (t = sg) = true := decide_eq_true c3
              rw [hdt] at HSm
              subst q1 q3
              have HQ := Aside0.mk q2
              clear q2 hhit c3 hdt
              go_wp2_with (first | (go_at_call 41; refine (arrearsref4_value.calls 2000 A' _ sg V _ HRd.out HCl.out HV.out).mono ?_; rintro e w1 ⟨rfl, ⟨m, rfl⟩⟩) | (go_at_call 16; refine (arrearsref4_PutUint.calls 20 V t _ HT.out).mono ?_; rintro e w2 ⟨v2, rfl, ho, hb⟩; obtain ⟨At, ct, rfl, hle, hC⟩ := Kd.R_reads ho; have HCt := Aside0.mk hC; have HLt := Aside0.mk hle; have HB2 := Aside0.mk (below_then (pw_below_drewN HB.out m) HB.out.size hb); have HRd2 := Aside0.mk (Kd.C_below (Kd.C_drewN HRd.out m) hb); clear ho hb hle hC) | (go_at_call 42; refine (arrearsref4_same.calls 2000 At _ t A' _ sg true _ HCt.out HLt.out HRd2.out HCl.out HSm.out).mono ?_; rintro e w3 ⟨rfl, ⟨m3, rfl⟩⟩))
              go_ret3
              exact ⟨(show Ending.returned (.tuple #[.int .u64 V, .int .i64 (a1 + n), .bool true]) = _ by rw [HQ.out]), pw_below_drewN HB2.out m3⟩
            · rw [if_neg (fun h => c3 (hhit.1 h))] at hS
              have hdt : decide (t = sg) = false := decide_eq_false c3
              rw [hdt] at HSm
              have HS2 := Aside0.mk hS
              clear hS hhit c3 hdt
              go_wp2_with (first | (go_at_call 41; refine (arrearsref4_value.calls 2000 A' _ sg V _ HRd.out HCl.out HV.out).mono ?_; rintro e w1 ⟨rfl, ⟨m, rfl⟩⟩) | (go_at_call 16; refine (arrearsref4_PutUint.calls 20 V t _ HT.out).mono ?_; rintro e w2 ⟨v2, rfl, ho, hb⟩; obtain ⟨At, ct, rfl, hle, hC⟩ := Kd.R_reads ho; have HCt := Aside0.mk hC; have HLt := Aside0.mk hle; have HB2 := Aside0.mk (below_then (pw_below_drewN HB.out m) HB.out.size hb); have HRd2 := Aside0.mk (Kd.C_below (Kd.C_drewN HRd.out m) hb); clear ho hb hle hC) | (go_at_call 42; refine (arrearsref4_same.calls 2000 At _ t A' _ sg false _ HCt.out HLt.out HRd2.out HCl.out HSm.out).mono ?_; rintro e w3 ⟨rfl, ⟨m3, rfl⟩⟩))
              go_roundw
              case rel => exact ⟨n + 1, d, by omega, by omega, by go_num, HS2, ⟨pw_below_drewN HB2.out m3⟩⟩
              case measure => simp [intOf]; omega
          · rw [if_neg c1] at hS
            have HS2 := Aside0.mk hS
            clear hS
            by_cases c2 : n ≤ 10
            · have hd2 : decide ((n : Int) ≤ 10) = true := decide_eq_true (by omega)
              have hd3 : decide ((n : Int) ≤ (l0.length : Int) - a1) = false := decide_eq_false (by omega)
              clear c1
              go_wp2
              go_ret3
              exact FIN.out _ _ ⟨rfl, HB.out⟩ HS2.out
            · have hd2 : decide ((n : Int) ≤ 10) = false := decide_eq_false (by omega)
              clear c1
              go_wp2
              go_ret3
              exact FIN.out _ _ ⟨rfl, HB.out⟩ HS2.out

end Go.Proofs.Ytebjppnggjnghaa.H
