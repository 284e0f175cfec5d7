/- fallen, and the four laws that play a script twice: the walks. No condition but the lists' bulk. -/
import Derived.Test.YticokogggepfoaaME
namespace Go.Proofs.Yticokogggepfoaa.D
open Go.RowKit Go.Proofs.YticokogggepfoaaW.PrintWords Go.Proofs.YticokogggepfoaaW.PrintLast Go.Proofs.YticokogggepfoaaW.PrintMore Go.Proofs.Yticokogggepfoaa.G
attribute [local go_sem] max2_int min2_int max_two min_two max_three min_three max_four min_four
set_option linter.unusedVariables false
set_option linter.unusedSimpArgs false
set_option maxRecDepth 100000
def toOM (x : S45) : OM := ⟨x.f0, x.f1, x.f2, x.f3, x.f4, x.f5⟩
theorem op_of45 {w : World} {A : Option Addr} {n : Nat} {xs : List S45} (h : Kd.C k45 w A n xs) : Kd.C OpK w A n (xs.map toOM) := by
  refine ⟨by rw [List.length_map]; exact h.1, h.2.1, fun hp => ?_⟩
  obtain ⟨ad, ha, hcell⟩ := h.2.2 hp
  refine ⟨ad, ha, fun j q hj => ?_⟩
  rw [List.getElem?_map] at hj
  obtain ⟨x, hxj, rfl⟩ := Option.map_eq_some_iff.1 hj
  obtain ⟨cs, h1, h2, h3⟩ := hcell j x hxj
  exact ⟨cs, h1, h2, h3⟩
def fall17 : List OM := [⟨1, false, 0, 0, 0, [1, 2, 3]⟩, ⟨7, false, 0, 1, 2, []⟩, ⟨3, false, 0, 0, 0, []⟩, ⟨10, false, 0, 0, 0, []⟩, ⟨5, false, 0, 0, 0, []⟩, ⟨6, false, 0, 0, 0, []⟩, ⟨1, false, 0, 0, 0, [9]⟩, ⟨9, false, 0, 0, 0, []⟩, ⟨10, false, 0, 0, 0, []⟩, ⟨5, false, 0, 0, 0, []⟩, ⟨1, false, 0, 0, 0, [4]⟩, ⟨4, false, 0, 1, 0, []⟩, ⟨3, false, 0, 0, 0, []⟩, ⟨6, false, 0, 0, 0, []⟩, ⟨5, false, 0, 0, 0, []⟩, ⟨9, false, 0, 0, 0, []⟩, ⟨11, false, 0, 0, 0, []⟩]
theorem fall17_len : fall17.length = 17 := rfl
theorem fall17_small : ∀ m ∈ fall17, m.data.length < 140737488355000 := by
  intro m hm
  simp only [fall17, List.mem_cons, List.not_mem_nil, or_false] at hm
  rcases hm with rfl | rfl | rfl | rfl | rfl | rfl | rfl | rfl | rfl | rfl | rfl | rfl | rfl | rfl | rfl | rfl | rfl <;> simp
theorem fallen_calls (w : World) : Calls Try.prog 25 #[] w fun e w' => ∃ A c, e = .returned (.slice A fall17.length c) ∧ Kd.C OpK w' A fall17.length fall17 ∧ Below w.heap.size w w' := by
  obtain ⟨r, hr⟩ : ∃ r, arrearslaw5_fallen.f = some r := ⟨_, rfl⟩
  refine (arrearslaw5_fallen.calls r w hr).mono fun e w' ⟨v, he, hN, hb⟩ => ?_
  have hm : r.map toOM = fall17 := by unfold arrearslaw5_fallen.f at hr; injection hr with hr; subst hr; rfl
  obtain ⟨A, c, rfl, _, hC⟩ := Kd.N_reads hN
  have hC2 := op_of45 hC
  have hl : r.length = fall17.length := by rw [← hm, List.length_map]
  rw [hm, hl] at hC2
  exact ⟨A, c, by rw [he, hl], hC2, hb⟩
theorem law_appends (W : World) (A0 A1 A2 : Option Addr) (c0 c1 c2 : Nat) (l0 l1 : List Int) (ms : List OM) (h0 : Kd.C By W A0 l0.length l0) (h0c : l0.length ≤ c0) (h0l : l0.length < 140737488355328) (h1 : Kd.C By W A1 l1.length l1) (h1c : l1.length ≤ c1) (h1l : l1.length < 140737488355328)
    (h2 : Kd.C OpK W A2 ms.length ms) (h2l : ms.length ≤ 2199023255488) (h2m : ∀ m ∈ ms, m.data.length < 140737488355000) : Calls Try.prog 5 #[.slice A0 l0.length c0, .slice A1 l1.length c1, .slice A2 ms.length c2] W fun e W' => e = .returned (.bool true) ∧ Below W.heap.size W W' := by
  have H0 := Aside0.mk h0
  have H1 := Aside0.mk h1
  have H2 := Aside0.mk h2
  have HM2 := Aside0.mk h2m
  have HL0 := Aside0.mk h0l
  have HL1 := Aside0.mk h1l
  clear h0 h1 h2 h2m h0l h1l
  have HBW := Aside0.mk (Below.refl W.heap.size W)
  go_enter Try.func5, Try.ntmps5
  go_wp2_with fail
  refine (fallen_calls _).mono ?_
  rintro e w1 ⟨A9, c9, rfl, h9, hb9⟩
  have H9 := Aside0.mk h9
  have HB9 := Aside0.mk hb9
  clear h9 hb9
  go_wp2_with fail
  refine (upto_calls w1 none none A9 0 0 c9 [] [] fall17 1 2 (C_nil_ w1) (Nat.le_refl 0) (by simp) (C_nil_ w1) (Nat.le_refl 0) (by simp) H9.out (by rw [fall17_len]; omega) fall17_small).mono ?_
  rintro e w2 ⟨rfl, hb2⟩
  have HBZ := Aside0.mk (HB9.out.trans (hb2.mono HB9.out.size))
  have HB2 := Aside0.mk (HBW.out.trans (HBZ.out.mono HBW.out.size))
  clear hb2
  go_wp2_with fail
  refine (upto_calls w2 A0 A1 A2 c0 c1 c2 l0 l1 ms 1 2 (Kd.C_below H0.out HB2.out) h0c HL0.out (Kd.C_below H1.out HB2.out) h1c HL1.out (Kd.C_below H2.out HB2.out) (by omega) HM2.out).mono ?_
  rintro e w3 ⟨rfl, hb3⟩
  have HB3 := Aside0.mk (HB2.out.trans (hb3.mono HB2.out.size))
  clear hb3
  go_wp2_with fail
  go_ret
  exact ⟨rfl, HB3.out⟩
theorem law_truncates (W : World) (A0 A1 A2 : Option Addr) (c0 c1 c2 : Nat) (l0 l1 : List Int) (ms : List OM) (h0 : Kd.C By W A0 l0.length l0) (h0c : l0.length ≤ c0) (h0l : l0.length < 140737488355328) (h1 : Kd.C By W A1 l1.length l1) (h1c : l1.length ≤ c1) (h1l : l1.length < 140737488355328)
    (h2 : Kd.C OpK W A2 ms.length ms) (h2l : ms.length ≤ 2199023255488) (h2m : ∀ m ∈ ms, m.data.length < 140737488355000) : Calls Try.prog 6 #[.slice A0 l0.length c0, .slice A1 l1.length c1, .slice A2 ms.length c2] W fun e W' => e = .returned (.bool true) ∧ Below W.heap.size W W' := by
  have H0 := Aside0.mk h0
  have H1 := Aside0.mk h1
  have H2 := Aside0.mk h2
  have HM2 := Aside0.mk h2m
  have HL0 := Aside0.mk h0l
  have HL1 := Aside0.mk h1l
  clear h0 h1 h2 h2m h0l h1l
  have HBW := Aside0.mk (Below.refl W.heap.size W)
  go_enter Try.func6, Try.ntmps6
  go_wp2_with fail
  refine (fallen_calls _).mono ?_
  rintro e w1 ⟨A9, c9, rfl, h9, hb9⟩
  have H9 := Aside0.mk h9
  have HB9 := Aside0.mk hb9
  clear h9 hb9
  go_wp2_with fail
  refine (upto_calls w1 none none A9 0 0 c9 [] [] fall17 4 4 (C_nil_ w1) (Nat.le_refl 0) (by simp) (C_nil_ w1) (Nat.le_refl 0) (by simp) H9.out (by rw [fall17_len]; omega) fall17_small).mono ?_
  rintro e w2 ⟨rfl, hb2⟩
  have HBZ := Aside0.mk (HB9.out.trans (hb2.mono HB9.out.size))
  have HB2 := Aside0.mk (HBW.out.trans (HBZ.out.mono HBW.out.size))
  clear hb2
  go_wp2_with fail
  refine (upto_calls w2 A0 A1 A2 c0 c1 c2 l0 l1 ms 4 4 (Kd.C_below H0.out HB2.out) h0c HL0.out (Kd.C_below H1.out HB2.out) h1c HL1.out (Kd.C_below H2.out HB2.out) (by omega) HM2.out).mono ?_
  rintro e w3 ⟨rfl, hb3⟩
  have HB3 := Aside0.mk (HB2.out.trans (hb3.mono HB2.out.size))
  clear hb3
  go_wp2_with fail
  go_ret
  exact ⟨rfl, HB3.out⟩
theorem law_reads (W : World) (A0 A1 A2 : Option Addr) (c0 c1 c2 : Nat) (l0 l1 : List Int) (ms : List OM) (h0 : Kd.C By W A0 l0.length l0) (h0c : l0.length ≤ c0) (h0l : l0.length < 140737488355328) (h1 : Kd.C By W A1 l1.length l1) (h1c : l1.length ≤ c1) (h1l : l1.length < 140737488355328)
    (h2 : Kd.C OpK W A2 ms.length ms) (h2l : ms.length ≤ 2199023255488) (h2m : ∀ m ∈ ms, m.data.length < 140737488355000) : Calls Try.prog 7 #[.slice A0 l0.length c0, .slice A1 l1.length c1, .slice A2 ms.length c2] W fun e W' => e = .returned (.bool true) ∧ Below W.heap.size W W' := by
  have H0 := Aside0.mk h0
  have H1 := Aside0.mk h1
  have H2 := Aside0.mk h2
  have HM2 := Aside0.mk h2m
  have HL0 := Aside0.mk h0l
  have HL1 := Aside0.mk h1l
  clear h0 h1 h2 h2m h0l h1l
  have HBW := Aside0.mk (Below.refl W.heap.size W)
  go_enter Try.func7, Try.ntmps7
  go_wp2_with fail
  refine (fallen_calls _).mono ?_
  rintro e w1 ⟨A9, c9, rfl, h9, hb9⟩
  have H9 := Aside0.mk h9
  have HB9 := Aside0.mk hb9
  clear h9 hb9
  go_wp2_with fail
  refine (upto_calls w1 none none A9 0 0 c9 [] [] fall17 5 5 (C_nil_ w1) (Nat.le_refl 0) (by simp) (C_nil_ w1) (Nat.le_refl 0) (by simp) H9.out (by rw [fall17_len]; omega) fall17_small).mono ?_
  rintro e w2 ⟨rfl, hb2⟩
  have HBZ := Aside0.mk (HB9.out.trans (hb2.mono HB9.out.size))
  have HB2 := Aside0.mk (HBW.out.trans (HBZ.out.mono HBW.out.size))
  clear hb2
  go_wp2_with fail
  refine (upto_calls w2 A0 A1 A2 c0 c1 c2 l0 l1 ms 5 5 (Kd.C_below H0.out HB2.out) h0c HL0.out (Kd.C_below H1.out HB2.out) h1c HL1.out (Kd.C_below H2.out HB2.out) (by omega) HM2.out).mono ?_
  rintro e w3 ⟨rfl, hb3⟩
  have HB3 := Aside0.mk (HB2.out.trans (hb3.mono HB2.out.size))
  clear hb3
  go_wp2_with fail
  go_ret
  exact ⟨rfl, HB3.out⟩
theorem law_durables (W : World) (A0 A1 A2 : Option Addr) (c0 c1 c2 : Nat) (l0 l1 : List Int) (ms : List OM) (h0 : Kd.C By W A0 l0.length l0) (h0c : l0.length ≤ c0) (h0l : l0.length < 140737488355328) (h1 : Kd.C By W A1 l1.length l1) (h1c : l1.length ≤ c1) (h1l : l1.length < 140737488355328)
    (h2 : Kd.C OpK W A2 ms.length ms) (h2l : ms.length ≤ 2199023255488) (h2m : ∀ m ∈ ms, m.data.length < 140737488355000) : Calls Try.prog 8 #[.slice A0 l0.length c0, .slice A1 l1.length c1, .slice A2 ms.length c2] W fun e W' => e = .returned (.bool true) ∧ Below W.heap.size W W' := by
  have H0 := Aside0.mk h0
  have H1 := Aside0.mk h1
  have H2 := Aside0.mk h2
  have HM2 := Aside0.mk h2m
  have HL0 := Aside0.mk h0l
  have HL1 := Aside0.mk h1l
  clear h0 h1 h2 h2m h0l h1l
  have HBW := Aside0.mk (Below.refl W.heap.size W)
  go_enter Try.func8, Try.ntmps8
  go_wp2_with fail
  refine (fallen_calls _).mono ?_
  rintro e w1 ⟨A9, c9, rfl, h9, hb9⟩
  have H9 := Aside0.mk h9
  have HB9 := Aside0.mk hb9
  clear h9 hb9
  go_wp2_with fail
  refine (upto_calls w1 none none A9 0 0 c9 [] [] fall17 6 6 (C_nil_ w1) (Nat.le_refl 0) (by simp) (C_nil_ w1) (Nat.le_refl 0) (by simp) H9.out (by rw [fall17_len]; omega) fall17_small).mono ?_
  rintro e w2 ⟨rfl, hb2⟩
  have HBZ := Aside0.mk (HB9.out.trans (hb2.mono HB9.out.size))
  have HB2 := Aside0.mk (HBW.out.trans (HBZ.out.mono HBW.out.size))
  clear hb2
  go_wp2_with fail
  refine (upto_calls w2 A0 A1 A2 c0 c1 c2 l0 l1 ms 6 6 (Kd.C_below H0.out HB2.out) h0c HL0.out (Kd.C_below H1.out HB2.out) h1c HL1.out (Kd.C_below H2.out HB2.out) (by omega) HM2.out).mono ?_
  rintro e w3 ⟨rfl, hb3⟩
  have HB3 := Aside0.mk (HB2.out.trans (hb3.mono HB2.out.size))
  clear hb3
  go_wp2_with fail
  go_ret
  exact ⟨rfl, HB3.out⟩
end Go.Proofs.Yticokogggepfoaa.D
