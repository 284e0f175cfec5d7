-- Written by stubprint.py (wip/) of this work, over the kit's print.py; parts by hand.
import Derived.Test.YthdokkfcdjobiaaLx0
import Derived.Test.YthdokkfcdjobiaaLx1
import Derived.Test.YthdokkfcdjobiaaLx2
namespace Go.Proofs.Ythdokkfcdjobiaa.L
open Go.RowKit Go.Proofs.YthdokkfcdjobiaaW.PrintWords Go.Proofs.YthdokkfcdjobiaaW.PrintLast Go.Proofs.YthdokkfcdjobiaaW.PrintMore
attribute [local go_sem] max2_int min2_int max_two min_two max_three min_three max_four min_four   -- for this text's walks alone
set_option linter.unusedVariables false
set_option linter.unusedSimpArgs false

/-! ### arrearsref4_Uint: function 11 (by hand) -/
/-- What groups of seven bits come to. -/
def arrearsref4_Uint.dec : List Int → Int
  | [] => 0
  | b :: r => b % 128 + 128 * arrearsref4_Uint.dec r
def arrearsref4_Uint.val (s : List Int) : Int := arrearsref4_Uint.dec s % 18446744073709551616
def arrearsref4_Uint.seg (l : List Int) (a1 : Int) (n : Nat) : List Int := (l.drop a1.toNat).take n
/-- Do the n bytes at the place tell a number? -/
def arrearsref4_Uint.hit (l : List Int) (a1 : Int) (n : Nat) : Prop := arrearsref4_PutUint.f 20 (arrearsref4_Uint.val (arrearsref4_Uint.seg l a1 n)) = some (arrearsref4_Uint.seg l a1 n)
instance (l : List Int) (a1 : Int) (n : Nat) : Decidable (arrearsref4_Uint.hit l a1 n) := by unfold arrearsref4_Uint.hit; infer_instance
def arrearsref4_Uint.search (l : List Int) (a1 : Int) : Nat → Nat → Int × Int × Bool
  | 0, _ => (0, 0, false)
  | d + 1, n => if n ≤ 10 ∧ (n : Int) ≤ l.length - a1 then (if arrearsref4_Uint.hit l a1 n then (arrearsref4_Uint.val (arrearsref4_Uint.seg l a1 n), a1 + n, true) else arrearsref4_Uint.search l a1 d (n + 1)) else (0, 0, false)
def arrearsref4_Uint.f (l : List Int) (a1 : Int) : Option (Int × Int × Bool) := if (∀ x ∈ l, 0 ≤ x ∧ x ≤ 255) then some (if a1 < 0 ∨ a1 > l.length then (0, 0, false) else arrearsref4_Uint.search l a1 11 1) else none
theorem arrearsref4_Uint.value_loop (l : List Int) (hb : ∀ x ∈ l, 0 ≤ x ∧ x ≤ 255) (hl : l.length ≤ 1000) : ∀ (i k : Nat), i ≤ l.length → i < k → arrearsref4_value.l0 k l (arrearsref4_Uint.dec (l.drop i) % 18446744073709551616) ((i : Int) - 1) = some (arrearsref4_Uint.val l) := by
  intro i
  induction i with
  | zero =>
    intro k _ hk
    obtain ⟨k, rfl⟩ : ∃ m, k = m + 1 := ⟨k - 1, by omega⟩
    simp only [arrearsref4_value.l0]
    rw [if_neg (by omega)]; rfl
  | succ i ih =>
    intro k hi hk
    obtain ⟨k, rfl⟩ : ∃ m, k = m + 1 := ⟨k - 1, by omega⟩
    have e : (((i + 1 : Nat) : Int) - 1) = (i : Int) := by omega
    have hr : rd l (i : Int) = l[i] := by unfold rd; simp [show i < l.length from by omega]
    have hx := hb l[i] (List.getElem_mem _)
    have hd : l.drop i = l[i] :: l.drop (i + 1) := List.drop_eq_getElem_cons (by omega)
    simp only [arrearsref4_value.l0]
    rw [e, if_pos (by omega), if_pos (by omega), if_pos (by omega), hr, Hand.u64_wrap, Hand.u64_wrap, Hand.u64_wrap, Int.tmod_eq_emod_of_nonneg hx.1, show wrap64 ((i : Int) - 1) = (i : Int) - 1 from by unfold wrap64; omega]
    have := ih k (by omega) (by omega)
    rw [hd, arrearsref4_Uint.dec] at this
    rw [← this]
    congr 1
    omega
theorem arrearsref4_Uint.value_is (l : List Int) (hb : ∀ x ∈ l, 0 ≤ x ∧ x ≤ 255) (hl : l.length ≤ 1000) : arrearsref4_value.f 2000 l = some (arrearsref4_Uint.val l) := by
  unfold arrearsref4_value.f
  rw [show wrap64 ((l.length : Int) - 1) = (l.length : Int) - 1 from by unfold wrap64; omega]
  have := arrearsref4_Uint.value_loop l hb hl l.length 2000 (Nat.le_refl _) (by omega)
  rw [List.drop_length] at this
  simpa [arrearsref4_Uint.dec] using this
theorem arrearsref4_Uint.same_loop (a b : List Int) (hl : a.length = b.length) (hm : a.length ≤ 1000) (d : Nat) : ∀ (k i : Nat), i + d = a.length → d < k → arrearsref4_same.l0 k a b (i : Int) = some (decide (a.drop i = b.drop i)) := by
  induction d with
  | zero =>
    intro k i hi hk
    obtain ⟨k, rfl⟩ : ∃ m, k = m + 1 := ⟨k - 1, by omega⟩
    simp only [arrearsref4_same.l0]
    rw [if_neg (by omega), List.drop_eq_nil_of_le (by omega), List.drop_eq_nil_of_le (by omega)]; rfl
  | succ d ih =>
    intro k i hi hk
    obtain ⟨k, rfl⟩ : ∃ m, k = m + 1 := ⟨k - 1, by omega⟩
    have ea : a.drop i = rd a (i : Int) :: a.drop (i + 1) := by rw [show rd a (i : Int) = a[i] from by unfold rd; simp [show i < a.length from by omega]]; exact List.drop_eq_getElem_cons (by omega)
    have eb : b.drop i = rd b (i : Int) :: b.drop (i + 1) := by rw [show rd b (i : Int) = b[i] from by unfold rd; simp [show i < b.length from by omega]]; exact List.drop_eq_getElem_cons (by omega)
    simp only [arrearsref4_same.l0]
    rw [if_pos (by omega), if_pos (by omega), if_pos (by omega), show wrap64 ((i : Int) + 1) = ((i + 1 : Nat) : Int) from by unfold wrap64; omega, ih k (i + 1) (by omega) (by omega), ea, eb]
    by_cases c : rd a (i : Int) = rd b (i : Int)
    · rw [if_pos c]; simp [c]
    · rw [if_neg c]; simp [c]
theorem arrearsref4_Uint.same_is (a b : List Int) (hm : a.length ≤ 1000) : arrearsref4_same.f 2000 a b = some (decide (a = b)) := by
  unfold arrearsref4_same.f
  by_cases c : (a.length : Int) = (b.length : Int)
  · rw [if_pos c, show arrearsref4_same.l0 2000 a b 0 = _ from arrearsref4_Uint.same_loop a b (by omega) hm a.length 2000 0 (by omega) (by omega)]; rfl
  · rw [if_neg c, decide_eq_false (fun h => c (by rw [h]))]
theorem arrearsref4_Uint.put_ends : ∀ (d : Nat) (x : Int) (acc : List Int), 0 ≤ x → x < 128 ^ (d + 1) → acc.length + d ≤ 1000 → ∃ r, arrearsref4_PutUint.l0 (d + 1) x acc = some r ∧ r.length ≤ acc.length + d + 1 := by
  intro d
  induction d with
  | zero =>
    intro x acc h0 h1 hl
    simp only [arrearsref4_PutUint.l0]
    rw [Nat.zero_add, Int.pow_succ, Int.pow_zero] at h1
    rw [if_neg (by omega), if_pos (by omega)]
    exact ⟨_, rfl, by simp⟩
  | succ d ih =>
    intro x acc h0 h1 hl
    have hq : x / 128 < 128 ^ (d + 1) := Int.ediv_lt_of_lt_mul (by omega) (by rwa [← Int.pow_succ])
    simp only [arrearsref4_PutUint.l0]
    by_cases c : x > 127
    · rw [if_pos c, if_pos (by omega)]
      have hw : IntKind.u64.wrap (Int.tdiv x 128) ≤ x / 128 ∧ 0 ≤ IntKind.u64.wrap (Int.tdiv x 128) := by rw [Hand.u64_wrap, Int.tdiv_eq_ediv_of_nonneg h0]; omega
      obtain ⟨r, hr, hrl⟩ := ih (IntKind.u64.wrap (Int.tdiv x 128)) (acc ++ [(IntKind.u64.wrap ((Int.tmod x 128) + 128)) % 256]) hw.2 (Int.lt_of_le_of_lt hw.1 hq) (by simp; omega)
      exact ⟨r, hr, by simp at hrl; omega⟩
    · rw [if_neg c, if_pos (by omega)]
      exact ⟨_, rfl, by rw [List.length_append, List.length_singleton]; omega⟩
theorem arrearsref4_Uint.put_is (x : Int) (h0 : 0 ≤ x) (h1 : x < 18446744073709551616) : ∃ r, arrearsref4_PutUint.f 20 x = some r ∧ r.length ≤ 1000 := by
  unfold arrearsref4_PutUint.f
  have e : (18446744073709551616 : Int) ≤ 128 ^ (19 + 1) := by decide
  obtain ⟨r, hr, hl⟩ := arrearsref4_Uint.put_ends 19 x [] h0 (Int.lt_of_lt_of_le h1 e) (by simp)
  exact ⟨r, hr, by simp at hl; omega⟩
set_option maxRecDepth 100000 in
set_option maxHeartbeats 2000000 in
theorem arrearsref4_Uint.calls (A0 : Option Addr) (c0 : Nat) (l0 : List Int) (a1 : Int) (r1 : Int) (r2 : Int) (r3 : Bool) (w : World) (hr0 : Kd.C (Kd.int .u8) w A0 l0.length l0) (hc0 : l0.length ≤ c0) (h : arrearsref4_Uint.f l0 a1 = some (r1, r2, r3)) :
    Calls Try.prog 11 #[.slice A0 l0.length c0, .int .i64 a1] w fun e w' => e = .returned (.tuple #[.int .u64 r1, .int .i64 r2, .bool r3]) ∧ Below w.heap.size w w' := by
  have HR := Aside0.mk hr0
  have HC := Aside0.mk hc0
  have hmax := hr0.2.1
  unfold arrearsref4_Uint.f at h
  split at h
  case isFalse => cases h
  rename_i hb
  have HBy := Aside0.mk hb
  replace h := Option.some.inj h
  clear hr0 hc0 hb
  have fin : ∀ (e : Ending) (w' : World), (e = .returned (.tuple #[.int .u64 0, .int .i64 0, .bool false]) ∧ Below w.heap.size w w') → (0, 0, false) = (r1, r2, r3) → e = .returned (.tuple #[.int .u64 r1, .int .i64 r2, .bool r3]) ∧ Below w.heap.size w w' := by
    rintro e w' ⟨rfl, hb⟩ he
    injection he with e1 e2
    injection e2 with e2 e3
    subst e1 e2 e3
    exact ⟨rfl, hb⟩
  have FIN := Lib.hid fin
  clear fin
  by_cases g0 : a1 < 0
  · rw [if_pos (.inl g0)] at h
    have hd := decide_eq_true g0
    have HH := Aside0.mk h
    clear h g0
    go_enter Try.func11, Try.ntmps11
    go_wp2
    go_ret3
    exact FIN.out _ _ ⟨rfl, Below.refl _ _⟩ HH.out
  · have hd := decide_eq_false g0
    by_cases g1 : a1 > l0.length
    · rw [if_pos (.inr g1)] at h
      have hd1 : decide ((l0.length : Int) < a1) = true := decide_eq_true (by omega)
      have HH := Aside0.mk h
      clear h g0 g1
      go_enter Try.func11, Try.ntmps11
      go_wp2
      go_ret3
      exact FIN.out _ _ ⟨rfl, Below.refl _ _⟩ HH.out
    · rw [if_neg (fun h => h.elim g0 g1)] at h
      have hd1 : decide ((l0.length : Int) < a1) = false := decide_eq_false (by omega)
      have HH := Aside0.mk h
      have a0 : 0 ≤ a1 := by omega
      have a2 : a1 ≤ l0.length := by omega
      clear h g0 g1
      go_enter Try.func11, Try.ntmps11
      go_wp2
      go_loopw [7] (fun i wr => ∃ (n d : Nat), n + d = 12 ∧ 1 ≤ n ∧ i = .int .i64 n ∧ Aside0 (arrearsref4_Uint.search l0 a1 d n = (r1, r2, r3)) ∧ Aside0 (Below w.heap.size w wr)) (fun i _ => 12 - (intOf i).toNat)
      case atStart => exact ⟨1, 11, rfl, by omega, rfl, HH, ⟨Below.refl _ _⟩⟩
      case round =>
        obtain ⟨n, d, hnd, h1, rfl, HS, HB⟩ := hrel
        cases d with
        | zero =>
          have hS := HS.out
          simp only [arrearsref4_Uint.search] at hS
          have HS2 := Aside0.mk hS
          have hd2 : decide ((n : Int) ≤ 10) = false := decide_eq_false (by omega)
          clear hS
          go_wp2
          go_ret3
          exact FIN.out _ _ ⟨rfl, HB.out⟩ HS2.out
        | succ d =>
          have hS := HS.out
          simp only [arrearsref4_Uint.search] at hS
          by_cases c1 : n ≤ 10 ∧ (n : Int) ≤ l0.length - a1
          · rw [if_pos c1] at hS
            obtain ⟨g1, g2⟩ := c1
            have hd2 : decide ((n : Int) ≤ 10) = true := decide_eq_true (by omega)
            have hd3 : decide ((n : Int) ≤ (l0.length : Int) - a1) = true := decide_eq_true (by omega)
            obtain ⟨i0, hi0, _, hsz0, _⟩ := info_parts info5
            obtain ⟨A', hcut, hA', hC'⟩ := print_mid_of (P := Try.prog) (Value.int .u8) 0 22 5 .i64 .i64 Try.underlying22 hi0 hsz0 A0 c0 l0 a1 (a1 + n) a0 (by omega) (by omega) HC.out
            have hseg : (l0.take (a1 + n).toNat).drop a1.toNat = arrearsref4_Uint.seg l0 a1 n := by
              unfold arrearsref4_Uint.seg
              rw [List.drop_take]; congr 1; omega
            have hrd := Kd.C_of_reads (h1 := fun _ => rfl) (hA' _ (Kd.reads_of_C (Kd.C_below HR.out HB.out)))
            rw [hseg] at hcut hrd hC'
            have hsl : (arrearsref4_Uint.seg l0 a1 n).length = n := by unfold arrearsref4_Uint.seg; rw [List.length_take, List.length_drop]; omega
            have hsb : ∀ x ∈ arrearsref4_Uint.seg l0 a1 n, 0 ≤ x ∧ x ≤ 255 := fun x hx => HBy.out x (List.mem_of_mem_drop (List.mem_of_mem_take hx))
            obtain ⟨sg, esg⟩ : ∃ sg, sg = arrearsref4_Uint.seg l0 a1 n := ⟨_, rfl⟩
            rw [← esg] at hcut hrd hC' hsl hsb
            have hv := arrearsref4_Uint.value_is sg hsb (by omega)
            obtain ⟨t, ht, htl⟩ := arrearsref4_Uint.put_is (arrearsref4_Uint.val sg) (by unfold arrearsref4_Uint.val; omega) (by unfold arrearsref4_Uint.val; omega)
            have hsm := arrearsref4_Uint.same_is t sg htl
            have hhit : arrearsref4_Uint.hit l0 a1 n ↔ t = sg := by unfold arrearsref4_Uint.hit; rw [← esg, ht]; exact ⟨fun h => Option.some.inj h, fun h => by rw [h]⟩
            rw [← esg] at hS
            obtain ⟨V, eV⟩ : ∃ V, V = arrearsref4_Uint.val sg := ⟨_, rfl⟩
            rw [← eV] at hS hv ht
            have HRd := Aside0.mk hrd
            have HCl := Aside0.mk hC'
            have HV := Aside0.mk hv
            have HT := Aside0.mk ht
            have HSm := Aside0.mk hsm
            clear hrd hC' hv ht hsm hseg hA' hsz0 hi0 esg eV hsl hsb htl
            by_cases c3 : t = sg
            · rw [if_pos (hhit.2 c3)] at hS
              injection hS with q1 q2
              injection q2 with q2 q3
              have hdt : decide (t = sg) = true := decide_eq_true c3
              rw [hdt] at HSm
              subst q1 q3
              have HQ := Aside0.mk q2
              clear q2 hhit c3 hdt
              go_wp2_with (first | (go_at_call 14; refine (arrearsref4_value.calls 2000 A' _ sg V _ HRd.out HCl.out HV.out).mono ?_; rintro e w1 ⟨rfl, ⟨m, rfl⟩⟩) | (go_at_call 15; refine (arrearsref4_PutUint.calls 20 V t _ HT.out).mono ?_; rintro e w2 ⟨v2, rfl, ho, hb⟩; obtain ⟨At, ct, rfl, hle, hC⟩ := Kd.R_reads ho; have HCt := Aside0.mk hC; have HLt := Aside0.mk hle; have HB2 := Aside0.mk (below_then (pw_below_drewN HB.out m) HB.out.size hb); have HRd2 := Aside0.mk (Kd.C_below (Kd.C_drewN HRd.out m) hb); clear ho hb hle hC) | (go_at_call 16; refine (arrearsref4_same.calls 2000 At _ t A' _ sg true _ HCt.out HLt.out HRd2.out HCl.out HSm.out).mono ?_; rintro e w3 ⟨rfl, ⟨m3, rfl⟩⟩))
              go_ret3
              exact ⟨(show Ending.returned (.tuple #[.int .u64 V, .int .i64 (a1 + n), .bool true]) = _ by rw [HQ.out]), pw_below_drewN HB2.out m3⟩
            · rw [if_neg (fun h => c3 (hhit.1 h))] at hS
              have hdt : decide (t = sg) = false := decide_eq_false c3
              rw [hdt] at HSm
              have HS2 := Aside0.mk hS
              clear hS hhit c3 hdt
              go_wp2_with (first | (go_at_call 14; refine (arrearsref4_value.calls 2000 A' _ sg V _ HRd.out HCl.out HV.out).mono ?_; rintro e w1 ⟨rfl, ⟨m, rfl⟩⟩) | (go_at_call 15; refine (arrearsref4_PutUint.calls 20 V t _ HT.out).mono ?_; rintro e w2 ⟨v2, rfl, ho, hb⟩; obtain ⟨At, ct, rfl, hle, hC⟩ := Kd.R_reads ho; have HCt := Aside0.mk hC; have HLt := Aside0.mk hle; have HB2 := Aside0.mk (below_then (pw_below_drewN HB.out m) HB.out.size hb); have HRd2 := Aside0.mk (Kd.C_below (Kd.C_drewN HRd.out m) hb); clear ho hb hle hC) | (go_at_call 16; refine (arrearsref4_same.calls 2000 At _ t A' _ sg false _ HCt.out HLt.out HRd2.out HCl.out HSm.out).mono ?_; rintro e w3 ⟨rfl, ⟨m3, rfl⟩⟩))
              go_roundw
              case rel => exact ⟨n + 1, d, by omega, by omega, by go_num, HS2, ⟨pw_below_drewN HB2.out m3⟩⟩
              case measure => simp [intOf]; omega
          · rw [if_neg c1] at hS
            have HS2 := Aside0.mk hS
            clear hS
            by_cases c2 : n ≤ 10
            · have hd2 : decide ((n : Int) ≤ 10) = true := decide_eq_true (by omega)
              have hd3 : decide ((n : Int) ≤ (l0.length : Int) - a1) = false := decide_eq_false (by omega)
              clear c1
              go_wp2
              go_ret3
              exact FIN.out _ _ ⟨rfl, HB.out⟩ HS2.out
            · have hd2 : decide ((n : Int) ≤ 10) = false := decide_eq_false (by omega)
              clear c1
              go_wp2
              go_ret3
              exact FIN.out _ _ ⟨rfl, HB.out⟩ HS2.out

/-! ### arrearslaw4_oddly: function 7 -/
mutual
def arrearslaw4_oddly.j0 : Nat → List Int → Int → Int → Bool → Option (List Int × Int × Bool)
  | 0, _, _, _, _ => none
  | k + 1, x0, x7, x8, x32 => if x32 = true then (some (([] : List Int), 0, false)) else (arrearslaw4_oddly.l0 k x0 x7 x8 ([] : List Int) 0)
def arrearslaw4_oddly.l0 : Nat → List Int → Int → Int → List Int → Int → Option (List Int × Int × Bool)
  | 0, _, _, _, _, _ => none
  | k + 1, x0, x7, x8, x10, x11 => if x11 < x7 then ((arrearslaw4_odd.f k x0 x8).bind fun bt129 => (if bt129.2.2 = true then (if bt129.2.1 ≤ x8 then (some (([] : List Int), 0, false)) else (if bt129.2.1 > (x0.length : Int) then (some (([] : List Int), 0, false)) else (if x10.length < 17592186044416 then (arrearslaw4_oddly.l0 k x0 x7 bt129.2.1 (x10 ++ [bt129.1]) (IntKind.u64.wrap (x11 + 1))) else (none)))) else (some (([] : List Int), 0, false)))) else (some (x10, x8, true))
end
def arrearslaw4_oddly.f (k : Nat) (l0 : List Int) (a1 : Int) : Option (List Int × Int × Bool) := (arrearsref4_Uint.f l0 a1).bind fun bt126 => (if bt126.2.2 = true then (arrearslaw4_oddly.j0 k l0 bt126.1 bt126.2.1 (decide (bt126.1 > (IntKind.u64.wrap (wrap64 ((l0.length : Int) - bt126.2.1)))))) else (arrearslaw4_oddly.j0 k l0 bt126.1 bt126.2.1 true))
theorem arrearslaw4_oddly.mono_l : ∀ k, (∀ y0 y1 y2 y3, LeO (arrearslaw4_oddly.j0 k y0 y1 y2 y3) (arrearslaw4_oddly.j0 (k + 1) y0 y1 y2 y3)) ∧ (∀ y0 y1 y2 y3 y4, LeO (arrearslaw4_oddly.l0 k y0 y1 y2 y3 y4) (arrearslaw4_oddly.l0 (k + 1) y0 y1 y2 y3 y4))
  | 0 => ⟨fun _ _ _ _ r h => by simp [arrearslaw4_oddly.j0] at h, fun _ _ _ _ _ r h => by simp [arrearslaw4_oddly.l0] at h⟩
  | k + 1 => by
    obtain ⟨ih0, ih1⟩ := arrearslaw4_oddly.mono_l k
    refine ⟨?_, ?_⟩
    · intro y0 y1 y2 y3
      unfold arrearslaw4_oddly.j0
      repeat' first
      | (with_reducible exact ih0 _ _ _ _)
      | (with_reducible exact ih1 _ _ _ _ _)
      | (with_reducible exact arrearslaw4_odd.mono _ _ _)
      | (with_reducible exact LeO.refl _)
      | (with_reducible exact LeO.none _)
      | (with_reducible refine LeO.ite ?_ ?_)
      | (with_reducible refine LeO.bind ?_ (fun _ => ?_))
      | exact ih0 _ _ _ _
      | exact ih1 _ _ _ _ _
      | exact arrearslaw4_odd.mono _ _ _
      | exact LeO.none _
      | refine LeO.ite ?_ ?_
      | refine LeO.bind ?_ (fun _ => ?_)
    · intro y0 y1 y2 y3 y4
      unfold arrearslaw4_oddly.l0
      repeat' first
      | (with_reducible exact ih0 _ _ _ _)
      | (with_reducible exact ih1 _ _ _ _ _)
      | (with_reducible exact arrearslaw4_odd.mono _ _ _)
      | (with_reducible exact LeO.refl _)
      | (with_reducible exact LeO.none _)
      | (with_reducible refine LeO.ite ?_ ?_)
      | (with_reducible refine LeO.bind ?_ (fun _ => ?_))
      | exact ih0 _ _ _ _
      | exact ih1 _ _ _ _ _
      | exact arrearslaw4_odd.mono _ _ _
      | exact LeO.none _
      | refine LeO.ite ?_ ?_
      | refine LeO.bind ?_ (fun _ => ?_)
theorem arrearslaw4_oddly.mono : ∀ a0 a1 k, LeO (arrearslaw4_oddly.f k a0 a1) (arrearslaw4_oddly.f (k + 1) a0 a1) := by
  intro a0 a1 k
  obtain ⟨ih0, ih1⟩ := arrearslaw4_oddly.mono_l k
  unfold arrearslaw4_oddly.f
  repeat' first
      | (with_reducible exact ih0 _ _ _ _)
      | (with_reducible exact ih1 _ _ _ _ _)
      | (with_reducible exact arrearslaw4_odd.mono _ _ _)
      | (with_reducible exact LeO.refl _)
      | (with_reducible exact LeO.none _)
      | (with_reducible refine LeO.ite ?_ ?_)
      | (with_reducible refine LeO.bind ?_ (fun _ => ?_))
      | exact ih0 _ _ _ _
      | exact ih1 _ _ _ _ _
      | exact arrearslaw4_odd.mono _ _ _
      | exact LeO.none _
      | refine LeO.ite ?_ ?_
      | refine LeO.bind ?_ (fun _ => ?_)
set_option maxHeartbeats 8000000 in
set_option maxRecDepth 100000 in
theorem arrearslaw4_oddly.calls (k : Nat) (A0 : Option Addr) (c0 : Nat) (l0 : List Int) (a1 : Int) (r1 : List Int) (r2 : Int) (r3 : Bool) (w : World) (hr0 : Kd.C (Kd.int .u8) w A0 l0.length l0) (hc0 : l0.length ≤ c0) (h : arrearslaw4_oddly.f k l0 a1 = some (r1, r2, r3)) :
    Calls Try.prog 7 #[.slice A0 l0.length c0, .int .i64 a1] w fun e w' => ∃ v0_ : Value, e = .returned (.tuple #[v0_, .int .i64 r2, .bool r3]) ∧ Kd.R (Kd.int .i64) 2 w' w.heap.size (fun _ => True) v0_ r1 ∧ Below w.heap.size w w' := by
  have HR0 := Aside0.mk hr0
  have HC0 := Aside0.mk hc0
  clear hr0 hc0
  have HB := Aside0.mk (Below.refl w.heap.size w)
  have H : ((arrearsref4_Uint.f l0 a1).bind fun bt126 => (if bt126.2.2 = true then (arrearslaw4_oddly.j0 k l0 bt126.1 bt126.2.1 (decide (bt126.1 > (IntKind.u64.wrap (wrap64 ((l0.length : Int) - bt126.2.1)))))) else (arrearslaw4_oddly.j0 k l0 bt126.1 bt126.2.1 true))) = some (r1, r2, r3) := h
  clear h
  replace H := Option.bind_eq_some_iff.mp H
  obtain ⟨⟨t126, t127, t128⟩, A30, H⟩ := H
  replace H : (if t128 = true then (arrearslaw4_oddly.j0 k l0 t126 t127 (decide (t126 > (IntKind.u64.wrap (wrap64 ((l0.length : Int) - t127)))))) else (arrearslaw4_oddly.j0 k l0 t126 t127 true)) = some (r1, r2, r3) := H
  have A3 := Aside0.mk A30
  clear A30
  have HC4 := Aside0.mk H
  clear H
  go_enter Try.func7, Try.ntmps7
  go_upto_region 2 with (first | ((with_reducible refine gate_callee (f := 11) rfl ?_); refine goesL_ (some 18) rfl rfl Try.func11 (by kernel_rfl) rfl #[.slice A0 l0.length c0, .int .i64 a1] rfl (by (try simp only [List.map_toArray, List.map_cons, List.map_nil]); first | done | rfl | (simp only [List.length_drop, List.length_take]; rfl)) ?_; (with_reducible refine (arrearsref4_Uint.calls _ _ l0 a1 t126 t127 t128 _ ?side1 ?side2 A3.out).mono ?_); (case side1 => repeat (first | exact HR0.out | (with_reducible refine Kd.C_alloc ?_ _) | (with_reducible refine Kd.C_drewN ?_ _) | (with_reducible refine Kd.C_drew ?_))); (case side2 => exact HC0.out); rintro e w5 ⟨rfl, hb⟩; refine ⟨_, rfl, ?_⟩; have n0_ := Aside0.mk (below_step (by repeat (first | (with_reducible first | exact HB.out | apply below_alloc | apply pw_below_drewN | apply below_drew1) | exact HB.out)) hb); clear HB; have HB := n0_; clear n0_; (try clear hb); (try clear hb2); (try clear hk); (try clear hi)))
  (try simp only [Act.put, List.setIfInBounds_toArray, List.set_cons_zero, List.set_cons_succ])
  go_cut [32] (fun v32 wc => ∃ (kq : Nat) (x32_3 : Bool), v32 = .bool x32_3 ∧ Aside0 (arrearslaw4_oddly.j0 kq l0 t126 t127 x32_3 = some (r1, r2, r3)) ∧ Aside0 (kq ≤ k) ∧ Aside0 (Below w.heap.size w wc))
  case first =>
    have H := HC4.out
    clear HC4
    by_cases c6 : t128 = true
    · subst c6
      have H1 : (arrearslaw4_oddly.j0 k l0 t126 t127 (decide (t126 > (IntKind.u64.wrap (wrap64 ((l0.length : Int) - t127)))))) = some (r1, r2, r3) := by rw [if_pos rfl] at H; exact H
      clear H
      have H := H1
      clear H1
      have H' := Aside0.mk H
      clear H
      go_wp2
      go_meet
      case rel => exact ⟨_, (decide (t126 > (IntKind.u64.wrap (wrap64 ((l0.length : Int) - t127))))), (by first | rfl | (simp; done) | (simp [*]; done)), H', ⟨by first | omega | exact Nat.le_refl _⟩, ⟨by repeat (first | (with_reducible first | exact HB.out | apply below_alloc | apply pw_below_drewN | apply below_drew1) | exact HB.out)⟩⟩
    · replace c6 := Bool.eq_false_iff.mpr c6
      subst c6
      have H1 : (arrearslaw4_oddly.j0 k l0 t126 t127 true) = some (r1, r2, r3) := by rw [if_neg (show ¬ (false = true) by decide)] at H; exact H
      clear H
      have H := H1
      clear H1
      have H' := Aside0.mk H
      clear H
      go_wp2
      go_meet
      case rel => exact ⟨_, (true), (by first | rfl | (simp; done) | (simp [*]; done)), H', ⟨by first | omega | exact Nat.le_refl _⟩, ⟨by repeat (first | (with_reducible first | exact HB.out | apply below_alloc | apply pw_below_drewN | apply below_drew1) | exact HB.out)⟩⟩
  case rest =>
    clear HC4
    try clear c1
    try clear p2
    try clear c6
    try clear p6
    obtain ⟨kq, x32_3, rfl, HA, HJ3, HB⟩ := hcut
    cases kq with
    | zero => exact absurd HA.out (by simp [arrearslaw4_oddly.j0])
    | succ kj3 =>
      have H := HA.out
      clear HA
      simp only [arrearslaw4_oddly.j0] at H
      by_cases c7 : x32_3 = true
      · subst c7
        have H1 : (some (([] : List Int), 0, false)) = some (r1, r2, r3) := by rw [if_pos rfl] at H; exact H
        clear H
        have H := H1
        clear H1
        simp only [Option.some.injEq, Prod.mk.injEq] at H
        obtain ⟨rfl, rfl, rfl⟩ := H
        go_wp2
        go_ret3
        exact ⟨_, by first | rfl | (simp [errW_none, errW_some] <;> rfl) | (simp [*, errW_none, errW_some] <;> rfl), by first | exact Kd.R_nil _ _ _ _ _ | exact Kd.N_nil _ _ _ _ _ | exact Kd.V_nil _ _ _ _ _ | exact Kd.Q_nil _ _ _ _ _ | exact Kd.S_nil _ _ _ _ _, by repeat (first | (with_reducible first | exact HB.out | apply below_alloc | apply pw_below_drewN | apply below_drew1) | exact HB.out)⟩
      · replace c7 := Bool.eq_false_iff.mpr c7
        subst c7
        have H1 : (arrearslaw4_oddly.l0 kj3 l0 t126 t127 ([] : List Int) 0) = some (r1, r2, r3) := by rw [if_neg (show ¬ (false = true) by decide)] at H; exact H
        clear H
        have H := H1
        clear H1
        have H' := Aside0.mk H
        clear H
        go_wp2
        go_loopg [8, 10, 11] kj3 (fun kq v8 v10 v11 w' => ∃ (x8_2 : Int) (x10_2 : List Int) (x11_2 : Int), v8 = .int .i64 x8_2 ∧ v11 = .int .u64 x11_2 ∧ Aside0 (arrearslaw4_oddly.l0 kq l0 t126 x8_2 x10_2 x11_2 = some (r1, r2, r3)) ∧ Aside0 (kq ≤ kj3) ∧ Aside0 (Kd.R (Kd.int .i64) 2 w' w.heap.size (fun _ => True) v10 x10_2) ∧ Aside0 (Below w.heap.size w w'))
        case atStart => exact ⟨(t127), (([] : List Int)), (0), (by first | rfl | (simp; done) | (simp [*]; done)), (by first | rfl | (simp; done) | (simp [*]; done)), H', ⟨Nat.le_refl _⟩, ⟨by first | exact Kd.R_nil _ _ _ _ _ | exact Kd.N_nil _ _ _ _ _ | exact Kd.V_nil _ _ _ _ _ | exact Kd.Q_nil _ _ _ _ _ | exact Kd.S_nil _ _ _ _ _⟩, ⟨by repeat (first | (with_reducible first | exact HB.out | apply below_alloc | apply pw_below_drewN | apply below_drew1) | exact HB.out)⟩⟩
        case round =>
          clear H'
          try clear c1
          try clear p2
          try clear c6
          try clear p6
          try clear c7
          try clear p2
          try clear p6
          obtain ⟨x8_2, x10_2, x11_2, rfl, rfl, HA, HK2, HO_10, HB⟩ := hrel
          cases gk with
          | zero => exact absurd HA.out (by simp [arrearslaw4_oddly.l0])
          | succ k2 =>
            have H := HA.out
            clear HA
            simp only [arrearslaw4_oddly.l0] at H
            by_cases c8 : x11_2 < t126
            · rw [if_pos c8] at H
              have c8b0 : decide (x11_2 < t126) = true := decide_eq_true c8
              clear c8
              replace H := Option.bind_eq_some_iff.mp H
              obtain ⟨⟨t129, t130, t131⟩, A90, H⟩ := H
              replace H : (if t131 = true then (if t130 ≤ x8_2 then (some (([] : List Int), 0, false)) else (if t130 > (l0.length : Int) then (some (([] : List Int), 0, false)) else (if x10_2.length < 17592186044416 then (arrearslaw4_oddly.l0 k2 l0 t126 t130 (x10_2 ++ [t129]) (IntKind.u64.wrap (x11_2 + 1))) else (none)))) else (some (([] : List Int), 0, false))) = some (r1, r2, r3) := H
              have A9 := Aside0.mk A90
              clear A90
              by_cases c10 : t131 = true
              · subst c10
                have H1 : (if t130 ≤ x8_2 then (some (([] : List Int), 0, false)) else (if t130 > (l0.length : Int) then (some (([] : List Int), 0, false)) else (if x10_2.length < 17592186044416 then (arrearslaw4_oddly.l0 k2 l0 t126 t130 (x10_2 ++ [t129]) (IntKind.u64.wrap (x11_2 + 1))) else (none)))) = some (r1, r2, r3) := by rw [if_pos rfl] at H; exact H
                clear H
                have H := H1
                clear H1
                by_cases c11 : t130 ≤ x8_2
                · rw [if_pos c11] at H
                  have c11b0 : decide (t130 ≤ x8_2) = true := decide_eq_true c11
                  clear c11
                  simp only [Option.some.injEq, Prod.mk.injEq] at H
                  obtain ⟨rfl, rfl, rfl⟩ := H
                  go_wp2_with (first | ((with_reducible refine gate_callee (f := 6) rfl ?_); refine goesL_ (some 41) rfl rfl Try.func6 (by kernel_rfl) rfl #[.slice A0 l0.length c0, .int .i64 x8_2] rfl (by (try simp only [List.map_toArray, List.map_cons, List.map_nil]); first | done | rfl | (simp only [List.length_drop, List.length_take]; rfl)) ?_; (with_reducible refine (arrearslaw4_odd.calls k2 _ _ l0 x8_2 t129 t130 true _ ?side1 ?side2 A9.out).mono ?_); (case side1 => repeat (first | exact (Kd.C_below HR0.out HB.out) | (with_reducible refine Kd.C_alloc ?_ _) | (with_reducible refine Kd.C_drewN ?_ _) | (with_reducible refine Kd.C_drew ?_))); (case side2 => exact HC0.out); rintro e w' ⟨rfl, ⟨nd, rfl⟩⟩; refine ⟨_, rfl, ?_⟩))
                  go_ret3
                  exact ⟨_, by first | rfl | (simp [errW_none, errW_some] <;> rfl) | (simp [*, errW_none, errW_some] <;> rfl), by first | exact Kd.R_nil _ _ _ _ _ | exact Kd.N_nil _ _ _ _ _ | exact Kd.V_nil _ _ _ _ _ | exact Kd.Q_nil _ _ _ _ _ | exact Kd.S_nil _ _ _ _ _, by repeat (first | (with_reducible first | exact HB.out | apply below_alloc | apply pw_below_drewN | apply below_drew1) | exact HB.out)⟩
                · rw [if_neg c11] at H
                  have c11b0 : decide (t130 ≤ x8_2) = false := decide_eq_false c11
                  clear c11
                  by_cases c12 : t130 > (l0.length : Int)
                  · rw [if_pos c12] at H
                    have c12b0 : decide ((l0.length : Int) < t130) = true := decide_eq_true c12
                    clear c12
                    simp only [Option.some.injEq, Prod.mk.injEq] at H
                    obtain ⟨rfl, rfl, rfl⟩ := H
                    go_wp2_with (first | ((with_reducible refine gate_callee (f := 6) rfl ?_); refine goesL_ (some 41) rfl rfl Try.func6 (by kernel_rfl) rfl #[.slice A0 l0.length c0, .int .i64 x8_2] rfl (by (try simp only [List.map_toArray, List.map_cons, List.map_nil]); first | done | rfl | (simp only [List.length_drop, List.length_take]; rfl)) ?_; (with_reducible refine (arrearslaw4_odd.calls k2 _ _ l0 x8_2 t129 t130 true _ ?side1 ?side2 A9.out).mono ?_); (case side1 => repeat (first | exact (Kd.C_below HR0.out HB.out) | (with_reducible refine Kd.C_alloc ?_ _) | (with_reducible refine Kd.C_drewN ?_ _) | (with_reducible refine Kd.C_drew ?_))); (case side2 => exact HC0.out); rintro e w' ⟨rfl, ⟨nd, rfl⟩⟩; refine ⟨_, rfl, ?_⟩))
                    go_ret3
                    exact ⟨_, by first | rfl | (simp [errW_none, errW_some] <;> rfl) | (simp [*, errW_none, errW_some] <;> rfl), by first | exact Kd.R_nil _ _ _ _ _ | exact Kd.N_nil _ _ _ _ _ | exact Kd.V_nil _ _ _ _ _ | exact Kd.Q_nil _ _ _ _ _ | exact Kd.S_nil _ _ _ _ _, by repeat (first | (with_reducible first | exact HB.out | apply below_alloc | apply pw_below_drewN | apply below_drew1) | exact HB.out)⟩
                  · rw [if_neg c12] at H
                    have c12b0 : decide ((l0.length : Int) < t130) = false := decide_eq_false c12
                    clear c12
                    by_cases c13 : x10_2.length < 17592186044416
                    · rw [if_pos c13] at H
                      have LMc13 := Aside0.mk c13
                      clear c13
                      obtain ⟨y132, hy132⟩ : ∃ y_ : List Int, y_ = (x10_2 ++ [t129]) := ⟨_, rfl⟩
                      replace H : (arrearslaw4_oddly.l0 k2 l0 t126 t130 y132 (IntKind.u64.wrap (x11_2 + 1))) = some (r1, r2, r3) := by first | (rw [hy132]; with_reducible exact H) | (have H2_ := (Option.bind_some _ _).symm.trans H; rw [hy132]; with_reducible exact H2_) | (have H2_ := (Option.bind_some _ _).symm.trans H; with_reducible exact H2_) | with_reducible exact H | (rw [hy132]; exact H) | exact H
                      have Ny132 := Aside0.mk hy132
                      clear hy132
                      have H' := Aside0.mk H
                      clear H
                      go_wp2_with (first | ((with_reducible refine gate_callee (f := 6) rfl ?_); refine goesL_ (some 41) rfl rfl Try.func6 (by kernel_rfl) rfl #[.slice A0 l0.length c0, .int .i64 x8_2] rfl (by (try simp only [List.map_toArray, List.map_cons, List.map_nil]); first | done | rfl | (simp only [List.length_drop, List.length_take]; rfl)) ?_; (with_reducible refine (arrearslaw4_odd.calls k2 _ _ l0 x8_2 t129 t130 true _ ?side1 ?side2 A9.out).mono ?_); (case side1 => repeat (first | exact (Kd.C_below HR0.out HB.out) | (with_reducible refine Kd.C_alloc ?_ _) | (with_reducible refine Kd.C_drewN ?_ _) | (with_reducible refine Kd.C_drew ?_))); (case side2 => exact HC0.out); rintro e w' ⟨rfl, ⟨nd, rfl⟩⟩; refine ⟨_, rfl, ?_⟩) | ((with_reducible refine gate_builtin (b := .append) (xs := #[.tmp 58, .tmp 60]) rfl ?_); (try (refine gate_guard (by rfl) ?_; dsimp only)); at_builtin; refine Kd.R_append (Kd.int .i64) (w0 := w) w.heap.size rfl (.tmp 58) (.tmp 60) 23 2 (.int .i64 0) 8 rfl Try.underlying23 info2 rfl (by decide) (by omega) u10 x10_2 t129 [.int .i64 t129] (fun _ => True) (fun _ => False) rfl rfl ?aP (fun _ hk => hk.elim) ?aF ?aO ?aB ?aS ?aL ?_; (case aP => exact rfl); (case aB => exact (by repeat (first | (with_reducible first | exact HB.out | apply below_alloc | apply pw_below_drewN | apply below_drew1) | exact HB.out))); (case aF => exact (fun _ _ => trivial)); (case aO => exact (by (with_reducible repeat (first | apply Kd.R_alloc | apply Kd.R_drewN | apply Kd.R_drew)); exact HO_10.out)); (case aS => exact (below_size (by repeat (first | (with_reducible first | exact HB.out | apply below_alloc | apply pw_below_drewN | apply below_drew1) | exact HB.out)))); (case aL => have := LMc13.out; omega); intro v133 w14 ho hb hg hat; rw [← Ny132.out] at ho; have n0_ := Aside0.mk (hb); have n1_ := Aside0.mk (ho); clear HB; clear HO_10; have HB := n0_; have HO134 := n1_; clear n0_ n1_; clear ho hb hg hat))
                      go_roundg k2
                      case measure => have := HJ3.out; have := HK2.out; omega
                      case rel => exact ⟨(t130), (y132), (IntKind.u64.wrap (x11_2 + 1)), (by first | rfl | (simp; done) | (simp [*]; done)), (by first | rfl | (simp; done) | (simp [*]; done)), H', ⟨by have := HJ3.out; have := HK2.out; omega⟩, ⟨by (with_reducible repeat (first | apply Kd.R_alloc | apply Kd.R_drewN | apply Kd.R_drew)); exact HO134.out⟩, ⟨by repeat (first | (with_reducible first | exact HB.out | apply below_alloc | apply pw_below_drewN | apply below_drew1) | exact HB.out)⟩⟩
                    · rw [if_neg c13] at H
                      exact absurd H (by simp)
              · replace c10 := Bool.eq_false_iff.mpr c10
                subst c10
                have H1 : (some (([] : List Int), 0, false)) = some (r1, r2, r3) := by rw [if_neg (show ¬ (false = true) by decide)] at H; exact H
                clear H
                have H := H1
                clear H1
                simp only [Option.some.injEq, Prod.mk.injEq] at H
                obtain ⟨rfl, rfl, rfl⟩ := H
                go_wp2_with (first | ((with_reducible refine gate_callee (f := 6) rfl ?_); refine goesL_ (some 41) rfl rfl Try.func6 (by kernel_rfl) rfl #[.slice A0 l0.length c0, .int .i64 x8_2] rfl (by (try simp only [List.map_toArray, List.map_cons, List.map_nil]); first | done | rfl | (simp only [List.length_drop, List.length_take]; rfl)) ?_; (with_reducible refine (arrearslaw4_odd.calls k2 _ _ l0 x8_2 t129 t130 false _ ?side1 ?side2 A9.out).mono ?_); (case side1 => repeat (first | exact (Kd.C_below HR0.out HB.out) | (with_reducible refine Kd.C_alloc ?_ _) | (with_reducible refine Kd.C_drewN ?_ _) | (with_reducible refine Kd.C_drew ?_))); (case side2 => exact HC0.out); rintro e w' ⟨rfl, ⟨nd, rfl⟩⟩; refine ⟨_, rfl, ?_⟩))
                go_ret3
                exact ⟨_, by first | rfl | (simp [errW_none, errW_some] <;> rfl) | (simp [*, errW_none, errW_some] <;> rfl), by first | exact Kd.R_nil _ _ _ _ _ | exact Kd.N_nil _ _ _ _ _ | exact Kd.V_nil _ _ _ _ _ | exact Kd.Q_nil _ _ _ _ _ | exact Kd.S_nil _ _ _ _ _, by repeat (first | (with_reducible first | exact HB.out | apply below_alloc | apply pw_below_drewN | apply below_drew1) | exact HB.out)⟩
            · rw [if_neg c8] at H
              have c8b0 : decide (x11_2 < t126) = false := decide_eq_false c8
              clear c8
              simp only [Option.some.injEq, Prod.mk.injEq] at H
              obtain ⟨rfl, rfl, rfl⟩ := H
              go_wp2
              go_ret3
              exact ⟨_, by first | rfl | (simp [errW_none, errW_some] <;> rfl) | (simp [*, errW_none, errW_some] <;> rfl), by (with_reducible repeat (first | apply Kd.R_alloc | apply Kd.R_drewN | apply Kd.R_drew)); exact HO_10.out, by repeat (first | (with_reducible first | exact HB.out | apply below_alloc | apply pw_below_drewN | apply below_drew1) | exact HB.out)⟩

/-! ### arrearslaw4_sameNums: function 8 -/
def arrearslaw4_sameNums.l0 : Nat → List Int → List Int → Int → Option (Bool)
  | 0, _, _, _ => none
  | k + 1, x0, x1, x5 => if x5 < (x0.length : Int) then (if 0 ≤ x5 then (if x5 < (x1.length : Int) then (if (rd x0 x5) = (rd x1 x5) then (arrearslaw4_sameNums.l0 k x0 x1 (wrap64 (x5 + 1))) else (some false)) else (none)) else (none)) else (some true)
def arrearslaw4_sameNums.f (k : Nat) (l0 : List Int) (l1 : List Int) : Option (Bool) := if (l0.length : Int) = (l1.length : Int) then (arrearslaw4_sameNums.l0 k l0 l1 0) else (some false)
theorem arrearslaw4_sameNums.mono_l : ∀ k, (∀ y0 y1 y2, LeO (arrearslaw4_sameNums.l0 k y0 y1 y2) (arrearslaw4_sameNums.l0 (k + 1) y0 y1 y2))
  | 0 => fun _ _ _ r h => by simp [arrearslaw4_sameNums.l0] at h
  | k + 1 => by
    have ih0 := arrearslaw4_sameNums.mono_l k
    · intro y0 y1 y2
      unfold arrearslaw4_sameNums.l0
      repeat' first
      | (with_reducible exact ih0 _ _ _)
      | (with_reducible exact LeO.refl _)
      | (with_reducible exact LeO.none _)
      | (with_reducible refine LeO.ite ?_ ?_)
      | (with_reducible refine LeO.bind ?_ (fun _ => ?_))
      | exact ih0 _ _ _
      | exact LeO.none _
      | refine LeO.ite ?_ ?_
      | refine LeO.bind ?_ (fun _ => ?_)
theorem arrearslaw4_sameNums.mono : ∀ a0 a1 k, LeO (arrearslaw4_sameNums.f k a0 a1) (arrearslaw4_sameNums.f (k + 1) a0 a1) := by
  intro a0 a1 k
  have ih0 := arrearslaw4_sameNums.mono_l k
  unfold arrearslaw4_sameNums.f
  repeat' first
      | (with_reducible exact ih0 _ _ _)
      | (with_reducible exact LeO.refl _)
      | (with_reducible exact LeO.none _)
      | (with_reducible refine LeO.ite ?_ ?_)
      | (with_reducible refine LeO.bind ?_ (fun _ => ?_))
      | exact ih0 _ _ _
      | exact LeO.none _
      | refine LeO.ite ?_ ?_
      | refine LeO.bind ?_ (fun _ => ?_)
set_option maxHeartbeats 8000000 in
set_option maxRecDepth 100000 in
theorem arrearslaw4_sameNums.calls (k : Nat) (A0 : Option Addr) (c0 : Nat) (l0 : List Int) (A1 : Option Addr) (c1 : Nat) (l1 : List Int) (r : Bool) (w : World) (hr0 : Kd.C (Kd.int .i64) w A0 l0.length l0) (hc0 : l0.length ≤ c0) (hr1 : Kd.C (Kd.int .i64) w A1 l1.length l1) (hc1 : l1.length ≤ c1) (h : arrearslaw4_sameNums.f k l0 l1 = some r) :
    Calls Try.prog 8 #[.slice A0 l0.length c0, .slice A1 l1.length c1] w fun e w' => e = .returned (.bool r) ∧ Drawn0 w w' := by
  have HR0 := Aside0.mk hr0
  have HC0 := Aside0.mk hc0
  clear hr0 hc0
  have HR1 := Aside0.mk hr1
  have HC1 := Aside0.mk hc1
  clear hr1 hc1
  have H : (if (l0.length : Int) = (l1.length : Int) then (arrearslaw4_sameNums.l0 k l0 l1 0) else (some false)) = some r := h
  clear h
  by_cases c3 : (l0.length : Int) = (l1.length : Int)
  · rw [if_pos c3] at H
    have c3b0 : ((l0.length : Int) == (l1.length : Int)) = true := beq_iff_eq.mpr c3
    have c3b1 : ((l0.length : Int) != (l1.length : Int)) = false := bne_eq_false_iff_eq.mpr c3
    have c3b2 : (l0.length == l1.length) = true := by first | simpa using c3 | (simp at c3 ⊢; omega)
    clear c3
    have H' := Aside0.mk H
    clear H
    go_enter Try.func8, Try.ntmps8
    go_wp2
    repeat (go_quiet (fail); try go_wp2)
    go_loopg [5] k (fun kq v5 w' => ∃ (x5_1 : Int), v5 = .int .i64 x5_1 ∧ Aside0 (arrearslaw4_sameNums.l0 kq l0 l1 x5_1 = some r) ∧ Aside0 (kq ≤ k) ∧ Drawn0 w w')
    case atStart => exact ⟨(0), (by first | rfl | (simp; done) | (simp [*]; done)), H', ⟨Nat.le_refl _⟩, by repeat (first | exact Drawn0.refl _ | apply Drawn0.step)⟩
    case round =>
      clear H'
      try clear c1
      try clear p2
      try clear c3
      try clear c3b0
      try clear c3b1
      try clear c3b2
      obtain ⟨x5_1, rfl, HA, HK1, ⟨m1, rfl⟩⟩ := hrel
      cases gk with
      | zero => exact absurd HA.out (by simp [arrearslaw4_sameNums.l0])
      | succ k1 =>
        have H := HA.out
        clear HA
        simp only [arrearslaw4_sameNums.l0] at H
        by_cases c4 : x5_1 < (l0.length : Int)
        · rw [if_pos c4] at H
          have c4b0 : decide (x5_1 < (l0.length : Int)) = true := decide_eq_true c4
          clear c4
          by_cases c5 : 0 ≤ x5_1
          · rw [if_pos c5] at H
            have c5b0 : decide (0 ≤ x5_1) = true := decide_eq_true c5
            clear c5
            by_cases c6 : x5_1 < (l1.length : Int)
            · rw [if_pos c6] at H
              have c6b0 : decide (x5_1 < (l1.length : Int)) = true := decide_eq_true c6
              clear c6
              by_cases c7 : (rd l0 x5_1) = (rd l1 x5_1)
              · rw [if_pos c7] at H
                have c7b0 : ((rd l0 x5_1) == (rd l1 x5_1)) = true := beq_iff_eq.mpr c7
                have c7b1 : ((rd l0 x5_1) != (rd l1 x5_1)) = false := bne_eq_false_iff_eq.mpr c7
                clear c7
                have H' := Aside0.mk H
                clear H
                have p135 : 0 ≤ (x5_1 : Int) := of_decide_eq_true (by first | (with_reducible assumption) | assumption)
                have q135 : x5_1 < (l0.length : Int) := of_decide_eq_true (by first | (with_reducible assumption) | assumption)
                obtain ⟨ad135, e135, hx135_0⟩ := Kd.at_int HR0.out x5_1 p135 q135
                cases e135
                replace p135 := eq_true p135
                replace q135 := eq_true q135
                have p136 : 0 ≤ (x5_1 : Int) := of_decide_eq_true (by first | (with_reducible assumption) | assumption)
                have q136 : x5_1 < (l1.length : Int) := of_decide_eq_true (by first | (with_reducible assumption) | assumption)
                obtain ⟨ad136, e136, hx136_0⟩ := Kd.at_int HR1.out x5_1 p136 q136
                cases e136
                replace p136 := eq_true p136
                replace q136 := eq_true q136
                go_wp2
                repeat (go_quiet (fail); try go_wp2)
                go_roundg k1
                case measure => have := HK1.out; omega
                case rel => exact ⟨(wrap64 (x5_1 + 1)), (by first | rfl | (simp; done) | (simp [*]; done)), H', ⟨by have := HK1.out; omega⟩, by repeat (first | exact Drawn0.refl _ | apply Drawn0.step)⟩
              · rw [if_neg c7] at H
                have c7b0 : ((rd l0 x5_1) == (rd l1 x5_1)) = false := beq_eq_false_iff_ne.mpr c7
                have c7b1 : ((rd l0 x5_1) != (rd l1 x5_1)) = true := bne_iff_ne.mpr c7
                obtain rfl := Option.some.inj H
                have p135 : 0 ≤ (x5_1 : Int) := of_decide_eq_true (by first | (with_reducible assumption) | assumption)
                have q135 : x5_1 < (l0.length : Int) := of_decide_eq_true (by first | (with_reducible assumption) | assumption)
                obtain ⟨ad135, e135, hx135_0⟩ := Kd.at_int HR0.out x5_1 p135 q135
                cases e135
                replace p135 := eq_true p135
                replace q135 := eq_true q135
                have p136 : 0 ≤ (x5_1 : Int) := of_decide_eq_true (by first | (with_reducible assumption) | assumption)
                have q136 : x5_1 < (l1.length : Int) := of_decide_eq_true (by first | (with_reducible assumption) | assumption)
                obtain ⟨ad136, e136, hx136_0⟩ := Kd.at_int HR1.out x5_1 p136 q136
                cases e136
                replace p136 := eq_true p136
                replace q136 := eq_true q136
                go_wp2
                repeat (go_quiet (fail); try go_wp2)
                go_ret
                exact ⟨by first | rfl | (simp; done) | (simp [*]; done), by repeat (first | exact Drawn0.refl _ | apply Drawn0.step)⟩
            · rw [if_neg c6] at H
              exact absurd H (by simp)
          · rw [if_neg c5] at H
            exact absurd H (by simp)
        · rw [if_neg c4] at H
          have c4b0 : decide (x5_1 < (l0.length : Int)) = false := decide_eq_false c4
          clear c4
          obtain rfl := Option.some.inj H
          go_wp2
          repeat (go_quiet (fail); try go_wp2)
          go_ret
          exact ⟨by first | rfl | (simp; done) | (simp [*]; done), by repeat (first | exact Drawn0.refl _ | apply Drawn0.step)⟩
  · rw [if_neg c3] at H
    have c3b0 : ((l0.length : Int) == (l1.length : Int)) = false := beq_eq_false_iff_ne.mpr c3
    have c3b1 : ((l0.length : Int) != (l1.length : Int)) = true := bne_iff_ne.mpr c3
    have c3b2 : (l0.length == l1.length) = false := by first | simpa using c3 | (simp at c3 ⊢; omega)
    obtain rfl := Option.some.inj H
    go_enter Try.func8, Try.ntmps8
    go_wp2
    repeat (go_quiet (fail); try go_wp2)
    go_ret
    exact ⟨by first | rfl | (simp; done) | (simp [*]; done), by repeat (first | exact Drawn0.refl _ | apply Drawn0.step)⟩

/-! ### arrearslaw4_marking: function 12 -/
def arrearslaw4_marking.f (l0 : List Int) (a1 : Int) : Option (Int × Int × Bool × List Int) := if a1 < 0 then (some (0, 0, false, l0)) else (if a1 ≥ (l0.length : Int) then (some (0, 0, false, l0)) else (if 0 ≤ a1 then (if a1 < (l0.length : Int) then (some (1, wrap64 (a1 + 1), !((rd l0 a1) == 2), (l0.set (a1 : Int).toNat 99))) else (none)) else (none)))
set_option maxHeartbeats 8000000 in
set_option maxRecDepth 100000 in
theorem arrearslaw4_marking.calls (P0_ : Nat → Prop) (u9000_ : Value) (l0 : List Int) (a1 : Int) (r1 : Int) (r2 : Int) (r3 : Bool) (r4 : List Int) (w0 w : World) (hB : Below w0.heap.size w0 w) (ho0 : Kd.R (Kd.int .u8) 5 w w0.heap.size P0_ u9000_ l0) (h : arrearslaw4_marking.f l0 a1 = some (r1, r2, r3, r4)) :
    Calls Try.prog 12 #[u9000_, .int .i64 a1] w fun e w' => e = .returned (.tuple #[.int .i64 r1, .int .i64 r2, .bool r3]) ∧ Kd.R (Kd.int .u8) 5 w' w0.heap.size (fun k_ => (P0_ k_ ∨ w.heap.size ≤ k_)) u9000_ r4 ∧ Below w0.heap.size w0 w' ∧ Kept w w' (fun k_ => P0_ k_) := by
  have HO0 := Aside0.mk (show Kd.R (Kd.int .u8) 5 w w0.heap.size (fun k_ => (P0_ k_ ∨ w.heap.size ≤ k_)) u9000_ l0 from Kd.R_mono ho0 (fun k_ hk => (.inl hk)))
  have HK := Aside0.mk (Kept.refl w (fun k_ => P0_ k_))
  have HW0 := Aside0.mk hB.size
  have HB := Aside0.mk hB
  clear hB
  have H : (if a1 < 0 then (some (0, 0, false, l0)) else (if a1 ≥ (l0.length : Int) then (some (0, 0, false, l0)) else (if 0 ≤ a1 then (if a1 < (l0.length : Int) then (some (1, wrap64 (a1 + 1), !((rd l0 a1) == 2), (l0.set (a1 : Int).toNat 99))) else (none)) else (none)))) = some (r1, r2, r3, r4) := h
  clear h
  by_cases c3 : a1 < 0
  · rw [if_pos c3] at H
    have c3b0 : decide (a1 < 0) = true := decide_eq_true c3
    clear c3
    simp only [Option.some.injEq, Prod.mk.injEq] at H
    obtain ⟨rfl, rfl, rfl, rfl⟩ := H
    go_enter Try.func12, Try.ntmps12
    go_wp2
    go_ret3
    exact ⟨by first | rfl | (simp [errW_none, errW_some] <;> rfl) | (simp [*, errW_none, errW_some] <;> rfl), by (with_reducible repeat (first | apply Kd.R_alloc | apply Kd.R_drewN | apply Kd.R_drew)); exact HO0.out, by repeat (first | (with_reducible first | exact HB.out | apply below_alloc | apply pw_below_drewN | apply below_drew1) | exact HB.out), by repeat (first | (with_reducible first | exact HK.out | apply Kept.alloc | apply Kept.drewN | apply Kept.drew) | exact HK.out)⟩
  · rw [if_neg c3] at H
    have c3b0 : decide (a1 < 0) = false := decide_eq_false c3
    clear c3
    by_cases c4 : a1 ≥ (l0.length : Int)
    · rw [if_pos c4] at H
      have c4b0 : decide ((l0.length : Int) ≤ a1) = true := decide_eq_true c4
      clear c4
      simp only [Option.some.injEq, Prod.mk.injEq] at H
      obtain ⟨rfl, rfl, rfl, rfl⟩ := H
      obtain ⟨Ao5, co5, eo5⟩ := Kd.R_slice HO0.out
      subst eo5
      go_enter Try.func12, Try.ntmps12
      go_wp2
      go_ret3
      exact ⟨by first | rfl | (simp [errW_none, errW_some] <;> rfl) | (simp [*, errW_none, errW_some] <;> rfl), by (with_reducible repeat (first | apply Kd.R_alloc | apply Kd.R_drewN | apply Kd.R_drew)); exact HO0.out, by repeat (first | (with_reducible first | exact HB.out | apply below_alloc | apply pw_below_drewN | apply below_drew1) | exact HB.out), by repeat (first | (with_reducible first | exact HK.out | apply Kept.alloc | apply Kept.drewN | apply Kept.drew) | exact HK.out)⟩
    · rw [if_neg c4] at H
      have c4b0 : decide ((l0.length : Int) ≤ a1) = false := decide_eq_false c4
      clear c4
      by_cases c6 : 0 ≤ a1
      · rw [if_pos c6] at H
        have c6b0 : decide (0 ≤ a1) = true := decide_eq_true c6
        clear c6
        by_cases c7 : a1 < (l0.length : Int)
        · rw [if_pos c7] at H
          have c7b0 : decide (a1 < (l0.length : Int)) = true := decide_eq_true c7
          clear c7
          obtain ⟨y138, hy138⟩ : ∃ y_ : List Int, y_ = (l0.set (a1 : Int).toNat 99) := ⟨_, rfl⟩
          replace H : (some (1, wrap64 (a1 + 1), !((rd l0 a1) == 2), y138)) = some (r1, r2, r3, r4) := by first | (rw [hy138]; with_reducible exact H) | (have H2_ := (Option.bind_some _ _).symm.trans H; rw [hy138]; with_reducible exact H2_) | (have H2_ := (Option.bind_some _ _).symm.trans H; with_reducible exact H2_) | with_reducible exact H | (rw [hy138]; exact H) | exact H
          have Ny138 := Aside0.mk hy138
          clear hy138
          simp only [Option.some.injEq, Prod.mk.injEq] at H
          obtain ⟨rfl, rfl, rfl, rfl⟩ := H
          obtain ⟨Ao9, co9, eo9⟩ := Kd.R_slice HO0.out
          subst eo9
          have p137 : 0 ≤ (a1 : Int) := of_decide_eq_true (by first | (with_reducible assumption) | assumption)
          have q137 : a1 < (l0.length : Int) := of_decide_eq_true (by first | (with_reducible assumption) | assumption)
          obtain ⟨ad137, e137, hx137_0⟩ := Kd.at_int (Kd.R_reads' HO0.out).2.2 a1 p137 q137
          cases e137
          replace p137 := eq_true p137
          replace q137 := eq_true q137
          have p8 : 0 ≤ (a1 : Int) := of_decide_eq_true (by first | (with_reducible assumption) | assumption)
          have q8 : (a1 : Int) < ((l0.length : Int) : Int) := of_decide_eq_true (by first | (with_reducible assumption) | assumption)
          obtain ⟨go8, co8, eo8, gb8, gl8, cl8, HG8⟩ := Kd.R_form HO0.out (by omega)
          (first | cases eo8 | (injection eo8 with ea_ en_ ec_; (first | subst ea_ | (injection ea_ with ea_; subst ea_)); subst ec_; clear en_))
          have GB8 := Aside0.mk gb8
          have GG8 := Aside0.mk HG8
          clear gb8 gl8 HG8
          have HMgo8 := Aside0.mk (show (P0_ go8 ∨ w.heap.size ≤ go8) from (HO0.out.1 _ rfl))
          (first | simp only [add_plain] at hx137_0 | skip)
          obtain ⟨hx8_0, hf8_0⟩ := Kd.R_celln 0 HO0.out (a1 : Int) p8 q8
          replace p8 := eq_true p8
          replace q8 := eq_true q8
          have HP10 := Kd.R_putg HO0.out (a1 : Int) 99
          go_enter Try.func12, Try.ntmps12
          go_wp2_with (first | ((with_reducible refine gate_store (t := 5) (p := 23) rfl ?_); refine store_event (t := 5) (p := 23) (v := ?vo_w11) (w1 := (w.setCell ⟨go8, (a1 : Int).toNat, none⟩ (.int .u8 99))) ?hg ?ho ?hn ?hr ?_; (case ho => rfl); (case hg => rfl); (case hn => rfl); (case hr => first | (go_simp; done) | (go_simp; rfl)); intro w11 hw; have hg : w.grownBy w11 (some go8) := (by rw [hw]; exact HP10.2); have hp_ : Kd.R (Kd.int .u8) 5 w11 w0.heap.size (fun k_ => (P0_ k_ ∨ w.heap.size ≤ k_)) (.slice (some ⟨go8, 0, none⟩) l0.length co9) y138 := (by rw [hw, Ny138.out]; exact HP10.1); clear HP10; have n0_ := Aside0.mk (hp_); have n1_ := Aside0.mk ((by rw [hw]; exact below_set (HB.out) GB8.out : Below w0.heap.size w0 w11)); have n2_ := Aside0.mk (Kept.of_grown (S := (fun k_ => P0_ k_)) hg (by repeat (first | (with_reducible first | exact HK.out | apply Kept.alloc | apply Kept.drewN | apply Kept.drew) | exact HK.out)) (fun k_ e_ => (HO0.out.1 k_ e_))); clear HO0; clear HB; clear HK; have HO0 := n0_; have HB := n1_; have HK := n2_; clear n0_ n1_ n2_; clear hg hw hp_))
          go_ret3
          exact ⟨by first | rfl | (simp [errW_none, errW_some] <;> rfl) | (simp [*, errW_none, errW_some] <;> rfl), by (with_reducible repeat (first | apply Kd.R_alloc | apply Kd.R_drewN | apply Kd.R_drew)); exact HO0.out, by repeat (first | (with_reducible first | exact HB.out | apply below_alloc | apply pw_below_drewN | apply below_drew1) | exact HB.out), by repeat (first | (with_reducible first | exact HK.out | apply Kept.alloc | apply Kept.drewN | apply Kept.drew) | exact HK.out)⟩
        · rw [if_neg c7] at H
          exact absurd H (by simp)
      · rw [if_neg c6] at H
        exact absurd H (by simp)

end Go.Proofs.Ythdokkfcdjobiaa.L
