/- done: the other operations, and all of them. No condition but that the disk is whole. -/
import Derived.Test.YticokogggepfoaaLF
namespace Go.Proofs.Yticokogggepfoaa.D
open Go.RowKit Go.Proofs.YticokogggepfoaaW.PrintWords Go.Proofs.YticokogggepfoaaW.PrintLast Go.Proofs.YticokogggepfoaaW.PrintMore Go.Proofs.Yticokogggepfoaa.G
attribute [local go_sem] max2_int min2_int max_two min_two max_three min_three max_four min_four
set_option linter.unusedVariables false
set_option linter.unusedSimpArgs false
set_option maxRecDepth 100000
section
variable {W w : World} {B g : Nat} {ok : Nat → Prop} {p : PM} {m : OM} {A : Option Addr} {c : Nat}
theorem Did.of0 {w1 w' : World} {r : PM × Int} (hb : Below W.heap.size W w1) (hr : Rep w' B ok g r.1) (hu : Upd w1 w' ok) : Rep w' B (fun k => ok k ∨ W.heap.size ≤ k) g r.1 ∧ Upd W w' ok :=
  ⟨hr.mono (fun k hk => .inl hk), (Upd.of_below hb ok).then_ hu (fun _ _ h => h)⟩
theorem bx (W : World) (o : Obj) : Below W.heap.size W (W.alloc o) := below_alloc (Below.refl _ _) _
set_option maxHeartbeats 4000000 in
theorem done_sync (h : Rep W B ok g p) (hp : p.ok) (hBW : B ≤ W.heap.size) (hk : m.kd = 3) :
    Calls Try.prog 26 #[.pointer (some ⟨g, 0, none⟩), .agg (OV m A c)] W (Did W B g ok (m.done p)) := by
  have e : m.done p = p.syncf m.fl := by unfold OM.done; rw [if_neg (by omega), if_pos hk]
  rw [e]; clear e
  have H := Aside0.mk h
  have HP := Aside0.mk hp
  have HBW := Aside0.mk hBW
  have hu45 := Try.underlying45
  obtain ⟨kd, ot, fl, a, b, data⟩ := m
  clear h hp hBW
  dsimp only at hk
  subst hk
  go_enter Try.func26, Try.ntmps26
  go_wp2_with fail
  refine (sync_calls (H.out.later (bx W _)) HP.out (Nat.le_trans HBW.out (bx W _).size) _).mono ?_
  rintro e w2 ⟨rfl, hr, hu⟩
  have HD := Aside0.mk (Did.of (w2 := w2) (bx W _) hr hu)
  clear hr hu
  go_wp2_with fail
  go_ret
  exact ⟨rfl, HD.out⟩
set_option maxHeartbeats 4000000 in
theorem done_trunc (h : Rep W B ok g p) (hp : p.ok) (hBW : B ≤ W.heap.size) (hk : m.kd = 4) :
    Calls Try.prog 26 #[.pointer (some ⟨g, 0, none⟩), .agg (OV m A c)] W (Did W B g ok (m.done p)) := by
  have e : m.done p = p.trunc m.fl m.a := by unfold OM.done; rw [if_neg (by omega), if_neg (by omega), if_pos hk]
  rw [e]; clear e
  have H := Aside0.mk h
  have HP := Aside0.mk hp
  have HBW := Aside0.mk hBW
  have hu45 := Try.underlying45
  obtain ⟨kd, ot, fl, a, b, data⟩ := m
  clear h hp hBW
  dsimp only at hk
  subst hk
  go_enter Try.func26, Try.ntmps26
  go_wp2_with fail
  refine (trunc_calls (H.out.later (bx W _)) HP.out (Nat.le_trans HBW.out (bx W _).size) _ _).mono ?_
  rintro e w2 ⟨rfl, hr, hu⟩
  have HD := Aside0.mk (Did.of (w2 := w2) (bx W _) hr hu)
  clear hr hu
  go_wp2_with fail
  go_ret
  exact ⟨rfl, HD.out⟩
set_option maxHeartbeats 4000000 in
theorem done_arm (h : Rep W B ok g p) (hp : p.ok) (hBW : B ≤ W.heap.size) (hk : m.kd = 7) :
    Calls Try.prog 26 #[.pointer (some ⟨g, 0, none⟩), .agg (OV m A c)] W (Did W B g ok (m.done p)) := by
  have e : m.done p = p.arm m.a m.b := by unfold OM.done; rw [if_neg (by omega), if_neg (by omega), if_neg (by omega), if_pos hk]
  rw [e]; clear e
  have H := Aside0.mk h
  have HP := Aside0.mk hp
  have HBW := Aside0.mk hBW
  have hu45 := Try.underlying45
  obtain ⟨kd, ot, fl, a, b, data⟩ := m
  clear h hp hBW
  dsimp only at hk
  subst hk
  go_enter Try.func26, Try.ntmps26
  go_wp2_with fail
  refine (arm_calls (H.out.later (bx W _)) HP.out (Nat.le_trans HBW.out (bx W _).size) _ _).mono ?_
  rintro e w2 ⟨rfl, hr, hu⟩
  have HD := Aside0.mk (Did.of (w2 := w2) (bx W _) hr hu)
  clear hr hu
  go_wp2_with fail
  go_ret
  exact ⟨rfl, HD.out⟩
set_option maxHeartbeats 4000000 in
theorem done_disarm (h : Rep W B ok g p) (hk : m.kd = 8) :
    Calls Try.prog 26 #[.pointer (some ⟨g, 0, none⟩), .agg (OV m A c)] W (Did W B g ok (m.done p)) := by
  have e : m.done p = (p.disarm, 0) := by unfold OM.done; rw [if_neg (by omega), if_neg (by omega), if_neg (by omega), if_neg (by omega), if_pos hk]
  rw [e]; clear e
  have H := Aside0.mk h
  have hu45 := Try.underlying45
  obtain ⟨kd, ot, fl, a, b, data⟩ := m
  clear h
  dsimp only at hk
  subst hk
  go_enter Try.func26, Try.ntmps26
  go_wp2_with fail
  refine (disarm_calls (H.out.later (bx W _))).mono ?_
  rintro e w2 ⟨⟨v, rfl⟩, hr, hu⟩
  have HD := Aside0.mk (Did.of0 (r := (p.disarm, 0)) (bx W _) hr hu)
  clear hr hu
  go_wp2_with fail
  go_ret
  exact ⟨rfl, HD.out⟩
set_option maxHeartbeats 4000000 in
theorem done_restart (h : Rep W B ok g p) (hk : m.kd = 9) :
    Calls Try.prog 26 #[.pointer (some ⟨g, 0, none⟩), .agg (OV m A c)] W (Did W B g ok (m.done p)) := by
  have e : m.done p = p.restart := by unfold OM.done; rw [if_neg (by omega), if_neg (by omega), if_neg (by omega), if_neg (by omega), if_neg (by omega), if_pos hk]
  rw [e]; clear e
  have H := Aside0.mk h
  have hu45 := Try.underlying45
  obtain ⟨kd, ot, fl, a, b, data⟩ := m
  clear h
  dsimp only at hk
  subst hk
  go_enter Try.func26, Try.ntmps26
  go_wp2_with fail
  refine (restart_calls (H.out.later (bx W _))).mono ?_
  rintro e w2 ⟨rfl, hr, hu⟩
  have HD := Aside0.mk (Did.of0 (bx W _) hr hu)
  clear hr hu
  go_wp2_with fail
  go_ret
  exact ⟨rfl, HD.out⟩
set_option maxHeartbeats 4000000 in
theorem done_none (h : Rep W B ok g p) (hk : ¬ (m.kd = 1 ∨ m.kd = 2 ∨ m.kd = 3 ∨ m.kd = 4 ∨ m.kd = 7 ∨ m.kd = 8 ∨ m.kd = 9)) :
    Calls Try.prog 26 #[.pointer (some ⟨g, 0, none⟩), .agg (OV m A c)] W (Did W B g ok (m.done p)) := by
  have e : m.done p = (p, 0) := by unfold OM.done; rw [if_neg (by omega), if_neg (by omega), if_neg (by omega), if_neg (by omega), if_neg (by omega), if_neg (by omega)]
  rw [e]; clear e
  have H := Aside0.mk h
  have hu45 := Try.underlying45
  obtain ⟨kd, ot, fl, a, b, data⟩ := m
  clear h
  dsimp only at hk
  have d1 : (kd == (1 : Int)) = false := by simp; omega
  have d2 : (kd == (2 : Int)) = false := by simp; omega
  have d3 : (kd == (3 : Int)) = false := by simp; omega
  have d4 : (kd == (4 : Int)) = false := by simp; omega
  have d7 : (kd == (7 : Int)) = false := by simp; omega
  have d8 : (kd == (8 : Int)) = false := by simp; omega
  have d9 : (kd == (9 : Int)) = false := by simp; omega
  clear hk
  go_enter Try.func26, Try.ntmps26
  go_wp2
  go_ret
  exact ⟨rfl, Did.of0 (r := (p, 0)) (Below.refl _ _) (H.out.later (bx W _)) (Upd.of_below (bx W _) _)⟩
/-- done: what it answers, what it leaves. -/
theorem done_calls (h : Rep W B ok g p) (hp : p.ok) (hBW : B ≤ W.heap.size) (hC : Kd.C By W A m.data.length m.data) (hc : m.data.length ≤ c) (hl : m.data.length < 140737488355328) :
    Calls Try.prog 26 #[.pointer (some ⟨g, 0, none⟩), .agg (OV m A c)] W (Did W B g ok (m.done p)) := by
  by_cases h1 : m.kd = 1 ∨ m.kd = 2
  · exact done_append h hp hBW hC hc hl h1
  by_cases h3 : m.kd = 3
  · exact done_sync h hp hBW h3
  by_cases h4 : m.kd = 4
  · exact done_trunc h hp hBW h4
  by_cases h7 : m.kd = 7
  · exact done_arm h hp hBW h7
  by_cases h8 : m.kd = 8
  · exact done_disarm h h8
  by_cases h9 : m.kd = 9
  · exact done_restart h h9
  · exact done_none h (by omega)
end
end Go.Proofs.Yticokogggepfoaa.D
