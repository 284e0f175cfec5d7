/- The document's disk: what its struct reads as; the small functions on it. No condition but what it reads as. -/
import Derived.Test.YticokogggepfoaaDH
namespace Go.Proofs.Yticokogggepfoaa.D
open Go.RowKit Go.Proofs.YticokogggepfoaaW.PrintWords Go.Proofs.YticokogggepfoaaW.PrintLast Go.Proofs.YticokogggepfoaaW.PrintMore Go.Proofs.Yticokogggepfoaa.G
attribute [local go_sem] max2_int min2_int max_two min_two max_three min_three max_four min_four
set_option linter.unusedVariables false
set_option linter.unusedSimpArgs false
set_option maxRecDepth 100000
structure RM where
  d0 : List Int
  d1 : List Int
  p0 : List Int
  p1 : List Int
  ar : List (Int × Int)
  cnt : Int
  dn : Bool
  wr : Int
/-- Where the struct's slices lie. -/
structure RS where
  D0 : Option Addr
  D0c : Nat
  D1 : Option Addr
  D1c : Nat
  P0 : Option Addr
  P0c : Nat
  P1 : Option Addr
  P1c : Nat
  Ar : Option Addr
  Arc : Nat
@[reducible] def RC (s : RS) (m : RM) : Array Value := #[.slice s.D0 m.d0.length s.D0c, .slice s.D1 m.d1.length s.D1c, .slice s.P0 m.p0.length s.P0c, .slice s.P1 m.p1.length s.P1c, .slice s.Ar m.ar.length s.Arc, .int .i64 m.cnt, .bool m.dn, .int .i64 m.wr]
structure RRep (W : World) (ok : Nat → Prop) (s : RS) (m : RM) : Prop where
  d0 : Kd.F By W ok s.D0 m.d0.length m.d0
  d0c : m.d0.length ≤ s.D0c
  d1 : Kd.F By W ok s.D1 m.d1.length m.d1
  d1c : m.d1.length ≤ s.D1c
  p0 : Kd.F By W ok s.P0 m.p0.length m.p0
  p0c : m.p0.length ≤ s.P0c
  p1 : Kd.F By W ok s.P1 m.p1.length m.p1
  p1c : m.p1.length ≤ s.P1c
  ar : Kd.F Cr W ok s.Ar m.ar.length m.ar
  arc : m.ar.length ≤ s.Arc
section
variable {α : Type} {d : Kd α} {W W' : World} {ok ok' S : Nat → Prop} {A : Option Addr} {n : Nat} {xs : List α}
theorem f_now (h : Kd.F d W ok A n xs) : Kd.C d W A n xs := h W (fun _ _ _ => rfl)
theorem f_upd (h : Kd.F d W ok A n xs) (hu : Upd W W' S) (hne : ∀ k, ok k → k < W.heap.size → ¬ S k) : Kd.F d W' ok A n xs := fun W2 h2 => h W2 (fun k hk hlt => (h2 k hk (Nat.lt_of_lt_of_le hlt hu.size)).trans (hu.block k hlt (hne k hk hlt)))
theorem f_below (h : Kd.F d W ok A n xs) (hb : Below W.heap.size W W') : Kd.F d W' ok A n xs := f_upd h (Upd.of_below hb (fun _ => False)) (fun _ _ _ hk => hk)
theorem f_mono (h : Kd.F d W ok A n xs) (hok : ∀ k, ok k → ok' k) : Kd.F d W ok' A n xs := fun W2 h2 => h W2 (fun k hk hlt => h2 k (hok k hk) hlt)
theorem f_nil (W : World) (ok : Nat → Prop) : Kd.F d W ok none 0 ([] : List α) := fun W2 _ => Kd.C_nil d W2
theorem f_of_R {e base c : Nat} (h : Kd.R d e W base ok (.slice A n c) xs) : Kd.F d W (fun k => ok k ∧ base ≤ k ∧ k < W.heap.size) A xs.length xs := fun W2 h2 => by
  have h3 := Kd.R_step (Kd.R_mono (Kd.R_bound h) (fun k hk => (⟨hk.1, hk.2.1, hk.2.2.1⟩ : ok k ∧ base ≤ k ∧ k < W.heap.size))) (fun k hk hlt => h2 k hk hlt)
  exact (Kd.R_reads' h3).2.2
end
section
variable {W W' : World} {ok ok' S : Nat → Prop} {s : RS} {m : RM}
theorem RRep.upd (h : RRep W ok s m) (hu : Upd W W' S) (hne : ∀ k, ok k → k < W.heap.size → ¬ S k) : RRep W' ok s m :=
  ⟨f_upd h.d0 hu hne, h.d0c, f_upd h.d1 hu hne, h.d1c, f_upd h.p0 hu hne, h.p0c, f_upd h.p1 hu hne, h.p1c, f_upd h.ar hu hne, h.arc⟩
theorem RRep.below (h : RRep W ok s m) (hb : Below W.heap.size W W') : RRep W' ok s m := h.upd (Upd.of_below hb (fun _ => False)) (fun _ _ _ hk => hk)
theorem RRep.mono (h : RRep W ok s m) (hok : ∀ k, ok k → ok' k) : RRep W ok' s m :=
  ⟨f_mono h.d0 hok, h.d0c, f_mono h.d1 hok, h.d1c, f_mono h.p0 hok, h.p0c, f_mono h.p1 hok, h.p1c, f_mono h.ar hok, h.arc⟩
end
theorem rc_cells {W : World} {g : Nat} {s : RS} {m : RM} (h : W.heap[g]? = some (.cells (RC s m) 68 (0, 0))) :
    W.cell? ⟨g, 0, none⟩ = some (.slice s.D0 m.d0.length s.D0c) ∧ W.cell? ⟨g, 1, none⟩ = some (.slice s.D1 m.d1.length s.D1c) ∧ W.cell? ⟨g, 2, none⟩ = some (.slice s.P0 m.p0.length s.P0c) ∧ W.cell? ⟨g, 3, none⟩ = some (.slice s.P1 m.p1.length s.P1c) ∧ W.cell? ⟨g, 4, none⟩ = some (.slice s.Ar m.ar.length s.Arc) ∧ W.cell? ⟨g, 5, none⟩ = some (.int .i64 m.cnt) ∧ W.cell? ⟨g, 6, none⟩ = some (.bool m.dn) ∧ W.cell? ⟨g, 7, none⟩ = some (.int .i64 m.wr) := by
  refine ⟨?_, ?_, ?_, ?_, ?_, ?_, ?_, ?_⟩ <;> exact (blk_cell h _).trans rfl
def RM.refused (m : RM) (n : Int) : Int := if badF n then 50 else if m.dn = true then 51 else 0
def RM.dur (m : RM) (n : Int) : List Int := if n = 0 then m.d0 else m.d1
def RM.pend (m : RM) (n : Int) : List Int := if n = 0 then m.p0 else m.p1
def RS.dv (s : RS) (m : RM) (n : Int) : Value := if n = 0 then .slice s.D0 m.d0.length s.D0c else .slice s.D1 m.d1.length s.D1c
def RS.pv (s : RS) (m : RM) (n : Int) : Value := if n = 0 then .slice s.P0 m.p0.length s.P0c else .slice s.P1 m.p1.length s.P1c
section
variable (s : RS) (m : RM) (W : World)
theorem refused_calls (n : Int) : Calls Try.prog 57 #[.agg (RC s m), .int .i64 n] W fun e W' => e = .returned (.int .i64 (m.refused n)) ∧ Below W.heap.size W W' := by
  unfold RM.refused RC
  by_cases h0 : n = 0
  · subst h0
    rw [if_neg (by unfold badF; omega)]
    cases hd : m.dn
    all_goals
      go_enter Try.func57, Try.ntmps57
      go_wp2
      go_ret
      exact ⟨rfl, below_alloc (Below.refl _ _) _⟩
  · have d0 : (n == 0) = false := by simp [h0]
    have d0' : (n != 0) = true := by simp [h0]
    by_cases h1 : n = 1
    · subst h1
      rw [if_neg (by unfold badF; omega)]
      cases hd : m.dn
      all_goals
        go_enter Try.func57, Try.ntmps57
        go_wp2
        go_ret
        exact ⟨rfl, below_alloc (Below.refl _ _) _⟩
    · have d1 : (n == 1) = false := by simp [h1]
      have d1' : (n != 1) = true := by simp [h1]
      rw [if_pos (by unfold badF; omega)]
      clear h0 h1
      go_enter Try.func57, Try.ntmps57
      go_wp2
      go_ret
      exact ⟨rfl, below_alloc (Below.refl _ _) _⟩
theorem durable_calls (n : Int) : Calls Try.prog 59 #[.agg (RC s m), .int .i64 n] W fun e W' => e = .returned (s.dv m n) ∧ Below W.heap.size W W' := by
  unfold RS.dv RC
  by_cases h0 : n = 0
  · subst h0
    go_enter Try.func59, Try.ntmps59
    go_wp2
    go_ret
    exact ⟨rfl, below_alloc (Below.refl _ _) _⟩
  · have d0 : (n == 0) = false := by simp [h0]
    rw [if_neg h0]
    clear h0
    go_enter Try.func59, Try.ntmps59
    go_wp2
    go_ret
    exact ⟨rfl, below_alloc (Below.refl _ _) _⟩
theorem pending_calls (n : Int) : Calls Try.prog 60 #[.agg (RC s m), .int .i64 n] W fun e W' => e = .returned (s.pv m n) ∧ Below W.heap.size W W' := by
  unfold RS.pv RC
  by_cases h0 : n = 0
  · subst h0
    go_enter Try.func60, Try.ntmps60
    go_wp2
    go_ret
    exact ⟨rfl, below_alloc (Below.refl _ _) _⟩
  · have d0 : (n == 0) = false := by simp [h0]
    rw [if_neg h0]
    clear h0
    go_enter Try.func60, Try.ntmps60
    go_wp2
    go_ret
    exact ⟨rfl, below_alloc (Below.refl _ _) _⟩
def RM.with_ (m : RM) (n : Int) (a b : List Int) : RM := if n = 0 then { m with d0 := a, p0 := b } else { m with d1 := a, p1 := b }
def RS.with_ (s : RS) (n : Int) (A : Option Addr) (ac : Nat) (B : Option Addr) (bc : Nat) : RS := if n = 0 then { s with D0 := A, D0c := ac, P0 := B, P0c := bc } else { s with D1 := A, D1c := ac, P1 := B, P1c := bc }
theorem with_calls (n : Int) (A : Option Addr) (ac : Nat) (a : List Int) (B : Option Addr) (bc : Nat) (b : List Int) :
    Calls Try.prog 61 #[.agg (RC s m), .int .i64 n, .slice A a.length ac, .slice B b.length bc] W fun e W' => e = .returned (.agg (RC (s.with_ n A ac B bc) (m.with_ n a b))) ∧ Below W.heap.size W W' := by
  by_cases h0 : n = 0
  · subst h0
    show Calls Try.prog 61 _ W fun e W' => e = .returned (.agg (RC { s with D0 := A, D0c := ac, P0 := B, P0c := bc } { m with d0 := a, p0 := b })) ∧ _
    unfold RC
    go_enter Try.func61, Try.ntmps61
    go_wp2
    exact bodyPost_ret (v := .agg #[.slice A a.length ac, .slice s.D1 m.d1.length s.D1c, .slice B b.length bc, .slice s.P1 m.p1.length s.P1c, .slice s.Ar m.ar.length s.Arc, .int .i64 m.cnt, .bool m.dn, .int .i64 m.wr]) (by simp [results, Try.results61, go_sem]) rfl ⟨rfl, below_alloc (below_alloc (Below.refl _ _) _) _⟩
  · have d0 : (n == 0) = false := by simp [h0]
    have e1 : m.with_ n a b = { m with d1 := a, p1 := b } := by unfold RM.with_; rw [if_neg h0]
    have e2 : s.with_ n A ac B bc = { s with D1 := A, D1c := ac, P1 := B, P1c := bc } := by unfold RS.with_; rw [if_neg h0]
    rw [e1, e2]
    clear h0 e1 e2
    show Calls Try.prog 61 _ W fun e W' => e = .returned (.agg (RC { s with D1 := A, D1c := ac, P1 := B, P1c := bc } { m with d1 := a, p1 := b })) ∧ _
    unfold RC
    go_enter Try.func61, Try.ntmps61
    go_wp2
    exact bodyPost_ret (v := .agg #[.slice s.D0 m.d0.length s.D0c, .slice A a.length ac, .slice s.P0 m.p0.length s.P0c, .slice B b.length bc, .slice s.Ar m.ar.length s.Arc, .int .i64 m.cnt, .bool m.dn, .int .i64 m.wr]) (by simp [results, Try.results61, go_sem]) rfl ⟨rfl, below_alloc (below_alloc (Below.refl _ _) _) _⟩
def RM.disarm (m : RM) : RM := { m with ar := [], cnt := 0 }
def RS.disarm (s : RS) : RS := { s with Ar := none, Arc := 0 }
theorem rdisarm_calls : Calls Try.prog 54 #[.agg (RC s m)] W fun e W' => e = .returned (.agg (RC s.disarm m.disarm)) ∧ Below W.heap.size W W' := by
  unfold RC
  go_enter Try.func54, Try.ntmps54
  go_wp2
  exact bodyPost_ret (v := .agg #[.slice s.D0 m.d0.length s.D0c, .slice s.D1 m.d1.length s.D1c, .slice s.P0 m.p0.length s.P0c, .slice s.P1 m.p1.length s.P1c, .slice none 0 0, .int .i64 0, .bool m.dn, .int .i64 m.wr]) (by simp [results, Try.results54, go_sem]) rfl ⟨rfl, below_alloc (below_alloc (Below.refl _ _) _) _⟩
def RM.restart (m : RM) : RM × Int := if m.dn = true then ({ m with dn := false }, 0) else (m, 53)
theorem rrestart_calls : Calls Try.prog 55 #[.agg (RC s m)] W fun e W' => e = .returned (.tuple #[.agg (RC s m.restart.1), .int .i64 m.restart.2]) ∧ Below W.heap.size W W' := by
  cases hd : m.dn with
  | true =>
    have e : m.restart = ({ m with dn := false }, 0) := by unfold RM.restart; rw [if_pos hd]
    rw [e]
    unfold RC
    rw [hd]
    clear e
    go_enter Try.func55, Try.ntmps55
    go_wp2
    exact bodyPost_ret (v := .tuple #[.agg #[.slice s.D0 m.d0.length s.D0c, .slice s.D1 m.d1.length s.D1c, .slice s.P0 m.p0.length s.P0c, .slice s.P1 m.p1.length s.P1c, .slice s.Ar m.ar.length s.Arc, .int .i64 m.cnt, .bool false, .int .i64 m.wr], .int .i64 0]) (by simp [results, Try.results55, go_sem]) rfl ⟨rfl, below_alloc (below_alloc (Below.refl _ _) _) _⟩
  | false =>
    have e : m.restart = (m, 53) := by unfold RM.restart; rw [if_neg (by rw [hd]; simp)]
    rw [e]
    unfold RC
    rw [hd]
    clear e
    go_enter Try.func55, Try.ntmps55
    go_wp2
    exact bodyPost_ret (v := .tuple #[.agg #[.slice s.D0 m.d0.length s.D0c, .slice s.D1 m.d1.length s.D1c, .slice s.P0 m.p0.length s.P0c, .slice s.P1 m.p1.length s.P1c, .slice s.Ar m.ar.length s.Arc, .int .i64 m.cnt, .bool false, .int .i64 m.wr], .int .i64 53]) (by simp [results, Try.results55, go_sem]) rfl ⟨rfl, below_alloc (below_alloc (Below.refl _ _) _) _⟩
end
end Go.Proofs.Yticokogggepfoaa.D
