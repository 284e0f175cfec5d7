/- Small laws that the walks by hand use: make with a capacity, a row of bytes or numbers of the call's own, bits. No condition. -/
import Derived.Test.YtgfjmpnlkjocaaaDoorWWords
import Derived.Test.YtgfjmpnlkjocaaaDoorWMore
import Derived.Laws.MakeOwn
import Derived.Laws.Externs
import Derived.LaidMore
import Derived.Lib.Hide
import Derived.Deep.RegionHeld3
import Derived.WalkSpells
import Derived.WalkLawsBesides
namespace Go.Proofs.YtgfjmpnlkjocaaaDoor.Hand
open Go.RowKit Go.Proofs.YtgfjmpnlkjocaaaDoorW.PrintWords
set_option linter.unusedVariables false

theorem make_cap (P : Program) (t e : TypeId) (k : IntKind) (bytes : Nat) (ht : P.underlying t = some (.slice e)) (hinfo : (P.info? e).map (fun i => (i.zero, i.size, i.bytes)) = some (some (.int k 0), 1, bytes))
    (m : Int) (h0 : 0 ≤ m) (hn : (bytes : Int) * m ≤ 281474976710656) (h63 : m ≤ 9223372036854775807) :
    ∀ W : World, (Instr.makeSlice t (.int .i64 0) (.int .i64 m)).run P W = .ok (.slice (some ⟨W.heap.size, 0, none⟩) 0 m.toNat) (W.alloc (.cells (madeCells #[.int k 0] m.toNat) e)) := by
  intro W
  obtain ⟨i0, hi, hzz⟩ := Option.map_eq_some_iff.1 hinfo
  simp only [Prod.mk.injEq] at hzz
  obtain ⟨hz0, hz1, hz2⟩ := hzz
  rw [run_make W t e i0 _ ht hi hz0 .i64 .i64 0 m (by omega) h0 (by rw [hz2]; exact hn) h63, hz1, Nat.mul_one]
  rfl
theorem own_made0 (W : World) (base : Nat) (e : TypeId) (k : IntKind) (m : Nat) (hb : base ≤ W.heap.size) (hm : m ≤ 9223372036854775807) :
    (W.alloc (.cells (madeCells #[.int k 0] m) e)).ownsRow base e 1 (.slice (some ⟨W.heap.size, 0, none⟩) 0 m) ([] : List Int).length (nums k []) :=
  World.ownsRow_made W _ m hb hm (by simp [madeCells])
theorem u64_wrap (x : Int) : IntKind.u64.wrap x = x % 18446744073709551616 := by
  first | rfl | (simp [IntKind.wrap, IntKind.bits, IntKind.signed])
theorem u8_wrap (x : Int) : IntKind.u8.wrap x = x % 256 := by
  first | rfl | (simp [IntKind.wrap, IntKind.bits, IntKind.signed])
theorem or128 (n : Int) (h0 : 0 ≤ n) : bits BinOp.or IntKind.u8 (n % 256) 128 = n % 128 + 128 := by
  have key : ∀ m : Fin 256, bits BinOp.or IntKind.u8 ((m.val : Nat) : Int) 128 = ((m.val : Nat) : Int) % 128 + 128 := by decide +kernel
  have hlt : (n % 256).toNat < 256 := by omega
  have h := key ⟨(n % 256).toNat, hlt⟩
  have e : (((n % 256).toNat : Nat) : Int) = n % 256 := by omega
  simp only [e] at h
  rw [h]; omega
/-- An owned row of whole numbers, as a kind's row. -/
theorem reps_nums (k : IntKind) (xs : List Int) : Reps (fun (x : Int) (cs : List Value) => cs = [.int k x]) 1 xs (nums k xs) := by
  refine ⟨by simp [nums], fun j p hj => ?_⟩
  have hlt := (List.getElem?_eq_some_iff.1 hj).1
  have hv := (List.getElem?_eq_some_iff.1 hj).2
  rw [Nat.mul_one, List.drop_eq_getElem_cons (by simpa [nums] using hlt), List.take_succ_cons, List.take_zero]
  simp [nums, hv]
theorem R_of_own {w : World} {base e : Nat} {k : IntKind} {v : Value} {xs : List Int} (h : w.ownsRow base e 1 v xs.length (nums k xs)) : Kd.R (Kd.int k) e w base (fun _ => True) v xs :=
  ⟨fun _ _ => trivial, _, h, reps_nums k xs⟩
theorem own_of_R {w : World} {base e : Nat} {k : IntKind} {ok : Nat → Prop} {v : Value} {xs : List Int} (h : Kd.R (Kd.int k) e w base ok v xs) : w.ownsRow base e 1 v xs.length (nums k xs) := by
  obtain ⟨_, inner, ho, hr⟩ := h
  have e : inner = nums k xs := by
    have hl : inner.length = xs.length := by have := hr.1; rwa [show (Kd.int k).sz = 1 from rfl, Nat.mul_one] at this
    apply List.ext_getElem?
    intro j
    rcases Nat.lt_or_ge j xs.length with hj | hj
    · have h2 : (inner.drop (j * 1)).take 1 = [.int k xs[j]] := hr.2 j _ (List.getElem?_eq_getElem hj)
      rw [Nat.mul_one, List.drop_eq_getElem_cons (by omega), List.take_succ_cons, List.take_zero] at h2
      injection h2 with h3
      rw [List.getElem?_eq_getElem (by omega), h3]
      simp [nums, hj]
    · rw [List.getElem?_eq_none (by omega), List.getElem?_eq_none (by simpa [nums] using hj)]
  rw [← e]; exact ho
/-- A row stored over a block of the call's own, whole: the world behind it is a letter. -/
theorem store_row_event {P : Program} {ops : Array Oper} {rest : List Oper} {o : Oper} {a : Act} {W : World} {Q : Exit → Act → World → Prop} (hgd : o.guard = none) (ty : TypeId) (x y : Operand) (ho : o.op = .store ty x y)
    (g : Nat) (cells : Array Value) (hx : a.eval x = .pointer (some ⟨g, 0, none⟩)) (hy : a.eval y = .agg cells)
    (t : TypeId) (old : Array Value) (hg : W.heap[g]? = some (.cells old t (0, 0))) (hi : (P.info? ty).map (·.size) = some cells.size)
    (hold : old.size = cells.size) (h1 : cells.all (·.oneCell') = true)
    (h : ∀ w1, w1.heap[g]? = some (.cells cells t (0, 0)) → (∀ b, b ≠ g → w1.heap[b]? = W.heap[b]?) → (∀ w0 : World, w0.heap.size ≤ g → Below w0.heap.size w0 W → Below w0.heap.size w0 w1) → wpList P ops Q rest (a.put o.dst undef) w1) : wpList P ops Q (o :: rest) a W := by
  refine wpList_store_row hgd ty x y ho g cells hx hy t old hg hi hold h1 (h _ ?_ ?_ ?_)
  · simp [World.setRow, Array.getElem?_modify, hg]
  · intro b hb
    simp [World.setRow, Array.getElem?_modify, Ne.symm hb]
  · intro w0 hle hb
    exact hb.trans ⟨rfl, rfl, rfl, by simp [World.setRow], fun k hk => by
      have hne : g ≠ k := by omega
      simp [World.setRow, Array.getElem?_modify, hne]⟩
end Go.Proofs.YtgfjmpnlkjocaaaDoor.Hand
