/- side: what a disk is seen to hold, told. No condition. -/
import Derived.Test.YticokogggepfoaaLD
namespace Go.Proofs.Yticokogggepfoaa.D
open Go.RowKit Go.Proofs.YticokogggepfoaaW.PrintWords Go.Proofs.YticokogggepfoaaW.PrintLast Go.Proofs.YticokogggepfoaaW.PrintMore Go.Proofs.Yticokogggepfoaa.G
attribute [local go_sem] max2_int min2_int max_two min_two max_three min_three max_four min_four
set_option linter.unusedVariables false
set_option linter.unusedSimpArgs false
set_option maxRecDepth 100000
theorem gen_calls {P : Program} {fn : FuncId} {args : Array Value} {Q : Ending → World → Prop} {W : World} (F : World → Prop) (h0 : F W) (h : ∀ W2, F W2 → Calls P fn args W2 Q) : Calls P fn args W Q := h W h0
/-- A slice of bytes in blocks that are new since W. -/
def Sl (W w : World) (v : Value) (l : List Int) : Prop := ∃ A c, v = .slice A l.length c ∧ l.length ≤ c ∧ Kd.F By w (fun k => W.heap.size + 1 < k) A l.length l ∧ ∀ k, v.ownBlock = some k → W.heap.size + 1 < k ∧ ∃ cells, w.heap[k]? = some (.cells cells 5 (0, 0))
theorem Sl.upd {W w w' : World} {v : Value} {l : List Int} {S : Nat → Prop} (h : Sl W w v l) (hu : Upd w w' S) (hS : ∀ k, S k → k < W.heap.size + 2 ∨ w.heap.size ≤ k) : Sl W w' v l := by
  obtain ⟨A, c, rfl, h1, h2, h3⟩ := h
  refine ⟨A, c, rfl, h1, f_upd h2 hu (fun k hk hlt hs => by rcases hS k hs with h_ | h_ <;> omega), fun k hk => ?_⟩
  obtain ⟨h4, cells, h5⟩ := h3 k hk
  exact ⟨h4, cells, (hu.block k (blk_lt h5) (fun hs => by have := blk_lt h5; rcases hS k hs with h_ | h_ <;> omega)).trans h5⟩
theorem sl_fresh {W w w' : World} {v : Value} {l : List Int} (hlt : W.heap.size + 1 < w.heap.size) (h : Fresh w l v w') : Sl W w' v l := by
  obtain ⟨A, c, rfl, h1⟩ := Kd.R_slice_len h.1
  exact ⟨A, c, rfl, h1, Kd.F_mono (f_of_R h.1) (fun k hk => by have := hk.2.1; omega), fun k hk => ⟨by have := Kd.R_base h.1 k hk; omega, Kd.R_typed h.1 k hk⟩⟩
@[reducible] def zero41 : Array Value := #[.slice none 0 0, .slice none 0 0, .slice none 0 0, .slice none 0 0, .bool false]
/-- side's work: the cell of its answer, its own cell, what is read so far (k files). -/
structure SS (W w : World) (o : Nat → Prop) (g : Nat) (p : PM) (k : Nat) (v0 v1 v2 v3 : Value) : Prop where
  out : w.heap[W.heap.size]? = some (.cells zero41 41 (0, 0))
  box : w.heap[W.heap.size + 1]? = some (.cells #[v0, v1, v2, v3, .bool p.dn] 41 (0, 0))
  below : Below W.heap.size W w
  r0 : 1 ≤ k → Sl W w v0 (p.read 0).1 ∧ Sl W w v2 (p.dur 0).1
  r1 : 2 ≤ k → Sl W w v1 (p.read 1).1 ∧ Sl W w v3 (p.dur 1).1
section
variable {W w w' : World} {o : Nat → Prop} {g k : Nat} {p : PM} {v0 v1 v2 v3 : Value}
theorem SS.next (h : SS W w o g p k v0 v1 v2 v3) (hb : Below w.heap.size w w') : SS W w' o g p k v0 v1 v2 v3 :=
  ⟨blk_below h.out hb, blk_below h.box hb, h.below.trans (hb.mono h.below.size),
   fun hk => ⟨(h.r0 hk).1.upd (Upd.of_below hb (fun _ => False)) (fun _ h_ => h_.elim), (h.r0 hk).2.upd (Upd.of_below hb (fun _ => False)) (fun _ h_ => h_.elim)⟩,
   fun hk => ⟨(h.r1 hk).1.upd (Upd.of_below hb (fun _ => False)) (fun _ h_ => h_.elim), (h.r1 hk).2.upd (Upd.of_below hb (fun _ => False)) (fun _ h_ => h_.elim)⟩⟩
theorem SS.set (h : SS W w o g p k v0 v1 v2 v3) {u0 u1 u2 u3 u : Value} (j : Nat) (he : (#[v0, v1, v2, v3, .bool p.dn] : Array Value).setIfInBounds j u = #[u0, u1, u2, u3, .bool p.dn]) (e0 : 1 ≤ k → u0 = v0 ∧ u2 = v2) (e1 : 2 ≤ k → u1 = v1 ∧ u3 = v3) : SS W (w.setCell ⟨W.heap.size + 1, j, none⟩ u) o g p k u0 u1 u2 u3 := by
  have hU : Upd w (w.setCell ⟨W.heap.size + 1, j, none⟩ u) (fun k => k = W.heap.size + 1) := Upd.setCell (S := fun k => k = W.heap.size + 1) (Upd.refl w _) (p := ⟨W.heap.size + 1, j, none⟩) (fun _ => rfl) u
  have hS : ∀ k, k = W.heap.size + 1 → k < W.heap.size + 2 ∨ w.heap.size ≤ k := fun k hk => .inl (by omega)
  refine ⟨(hU.block _ (blk_lt h.out) (by omega)).trans h.out, blk_put h.box j u he, h.below.setCell (Nat.le_succ _) u, fun hk => ?_, fun hk => ?_⟩
  · rw [(e0 hk).1, (e0 hk).2]; exact ⟨(h.r0 hk).1.upd hU hS, (h.r0 hk).2.upd hU hS⟩
  · rw [(e1 hk).1, (e1 hk).2]; exact ⟨(h.r1 hk).1.upd hU hS, (h.r1 hk).2.upd hU hS⟩
theorem sl_set {l : List Int} {v : Value} (h : Sl W w v l) (j : Nat) (u : Value) : Sl W (w.setCell ⟨W.heap.size + 1, j, none⟩ u) v l :=
  h.upd (Upd.setCell (S := fun k => k = W.heap.size + 1) (Upd.refl w _) (p := ⟨W.heap.size + 1, j, none⟩) (fun _ => rfl) u) (fun k hk => .inl (by omega))
theorem sl_set0 {l : List Int} {v : Value} (h : Sl W w v l) (j : Nat) (u : Value) : Sl W (w.setCell ⟨W.heap.size, j, none⟩ u) v l :=
  h.upd (Upd.setCell (S := fun k => k = W.heap.size) (Upd.refl w _) (p := ⟨W.heap.size, j, none⟩) (fun _ => rfl) u) (fun k hk => .inl (by omega))
theorem sl_out {l : List Int} {v : Value} (h : Sl W w v l) (u0 u1 u2 u3 u4 : Value) : Sl W (((((w.setCell ⟨W.heap.size, 0, none⟩ u0).setCell ⟨W.heap.size, 1, none⟩ u1).setCell ⟨W.heap.size, 2, none⟩ u2).setCell ⟨W.heap.size, 3, none⟩ u3).setCell ⟨W.heap.size, 4, none⟩ u4) v l :=
  sl_set0 (sl_set0 (sl_set0 (sl_set0 (sl_set0 h 0 _) 1 _) 2 _) 3 _) 4 _
theorem SS.up0 (h : SS W w o g p 0 v0 v1 v2 v3) (a : Sl W w v0 (p.read 0).1) (b : Sl W w v2 (p.dur 0).1) : SS W w o g p 1 v0 v1 v2 v3 := ⟨h.out, h.box, h.below, fun _ => ⟨a, b⟩, fun hk => by omega⟩
theorem SS.up1 (h : SS W w o g p 1 v0 v1 v2 v3) (a : Sl W w v1 (p.read 1).1) (b : Sl W w v3 (p.dur 1).1) : SS W w o g p 2 v0 v1 v2 v3 := ⟨h.out, h.box, h.below, fun _ => h.r0 (Nat.le_refl _), fun _ => ⟨a, b⟩⟩
theorem ss_cells (h : SS W w o g p k v0 v1 v2 v3) : w.cell? ⟨W.heap.size + 1, 0, none⟩ = some v0 ∧ w.cell? ⟨W.heap.size + 1, 1, none⟩ = some v1 ∧ w.cell? ⟨W.heap.size + 1, 2, none⟩ = some v2 ∧ w.cell? ⟨W.heap.size + 1, 3, none⟩ = some v3 ∧ w.cell? ⟨W.heap.size + 1, 4, none⟩ = some (.bool p.dn) := by
  refine ⟨?_, ?_, ?_, ?_, ?_⟩ <;> exact (blk_cell h.box _).trans rfl
theorem so_cells (h : SS W w o g p k v0 v1 v2 v3) : w.cell? ⟨W.heap.size, 0, none⟩ = some (.slice none 0 0) ∧ w.cell? ⟨W.heap.size, 1, none⟩ = some (.slice none 0 0) ∧ w.cell? ⟨W.heap.size, 2, none⟩ = some (.slice none 0 0) ∧ w.cell? ⟨W.heap.size, 3, none⟩ = some (.slice none 0 0) ∧ w.cell? ⟨W.heap.size, 4, none⟩ = some (.bool false) := by
  refine ⟨?_, ?_, ?_, ?_, ?_⟩ <;> exact (blk_cell h.out _).trans rfl
theorem SS.lt (h : SS W w o g p k v0 v1 v2 v3) : W.heap.size + 1 < w.heap.size := blk_lt h.box
theorem SS.rep {B : Nat} (h : SS W w o g p k v0 v1 v2 v3) (r : Rep W B o g p) : Rep w B o g p := r.upd (Upd.of_below h.below (fun _ => False)) (fun _ _ _ hk => hk)
theorem SS.new (W : World) : SS W ((W.alloc (.cells zero41 41)).alloc (.cells #[.slice none 0 0, .slice none 0 0, .slice none 0 0, .slice none 0 0, .bool p.dn] 41)) o g p 0 (.slice none 0 0) (.slice none 0 0) (.slice none 0 0) (.slice none 0 0) :=
  ⟨(Below.heap_alloc _ _ _ (by simp)).trans (heap_alloc_new W _), by have := heap_alloc_new (W.alloc (.cells zero41 41)) (.cells #[.slice none 0 0, .slice none 0 0, .slice none 0 0, .slice none 0 0, .bool p.dn] 41); simpa using this,
   below_alloc (below_alloc (Below.refl _ _) _) _, fun hk => by omega, fun hk => by omega⟩
end
theorem info41 : (Try.prog.info? 41).map (·.size) = some 5 := by kernel_rfl
theorem ret41 {fn : Func} {p : Tmp} (h : fn.results = #[.cell p 41]) (tmps : Array Value) (w : World) (g : Nat) (cs : Array Value) (hp : tmps.getD p undef = .pointer (some ⟨g, 0, none⟩)) (hg : w.heap[g]? = some (.cells cs 41 (0, 0))) (hs : cs.size = 5) :
    (results fn tmps).run Try.prog w = .ok (.agg cs) w := results_single (r := .cell p 41) h (.cell g 41 cs (0, 0) _ hp hg Try.underlying41 rfl (by rw [hs]; exact info41) .nil)
set_option maxHeartbeats 2000000 in
theorem side_calls {W : World} {B g : Nat} {o : Nat → Prop} {p : PM} (h : Rep W B o g p) (hp : p.ok) : Calls Try.prog 22 #[.pointer (some ⟨g, 0, none⟩)] W fun e W' => ∃ v0 v1 v2 v3, e = .returned (.agg #[v0, v1, v2, v3, .bool p.dn]) ∧ Below W.heap.size W W' ∧ Sl W W' v0 (p.read 0).1 ∧ Sl W W' v1 (p.read 1).1 ∧ Sl W W' v2 (p.dur 0).1 ∧ Sl W W' v3 (p.dur 1).1 := by
  have H := Aside0.mk h
  have HP := Aside0.mk hp
  clear h hp
  go_enter Try.func22, Try.ntmps22
  go_wp2_with fail
  refine (down_calls (H.out.upd (Upd.of_below (below_alloc (below_alloc (Below.refl _ _) _) _) (fun _ => False)) (fun _ _ _ hk => hk))).mono ?_
  rintro e w1 ⟨rfl, rfl⟩
  go_wp2_with fail
  go_loopw [4] (fun i wr => ∃ (k : Nat) (v0 v1 v2 v3 : Value), k ≤ 2 ∧ i = .int .i64 (k : Int) ∧ Aside0 (SS W wr o g p k v0 v1 v2 v3)) (fun i _ => 2 - (intOf i).toNat)
  case atStart =>
    exact ⟨0, _, _, _, _, by omega, rfl, ⟨SS.new W⟩⟩
  case round =>
    obtain ⟨k, v0, v1, v2, v3, hk, rfl, HK⟩ := hrel
    obtain ⟨x0, x1, x2, x3, x4⟩ := ss_cells HK.out
    have hfz := blk_frozen HK.out.box
    rcases (show k = 0 ∨ k = 1 ∨ k = 2 by omega) with rfl | rfl | rfl
    · go_wp2_with fail
      refine (read_calls (HK.out.rep H.out) HP.out 0).mono ?_
      rintro e w1 ⟨v, rfl, hf⟩
      obtain ⟨A1, c1, rfl, _⟩ := Kd.R_slice_len hf.1
      have h1 := HK.out.next hf.2
      have hs1 := sl_fresh HK.out.lt hf
      clear hf x0 x1 x2 x3 x4 hfz
      obtain ⟨x0, x1, x2, x3, x4⟩ := ss_cells h1
      have hfz := blk_frozen h1.box
      have H1 := Aside0.mk h1
      have S1 := Aside0.mk hs1
      clear h1 hs1
      go_wp2_with fail
      refine gen_calls (fun w2 => SS W w2 o g p 0 (.slice A1 (p.read 0).1.length c1) v1 v2 v3 ∧ Sl W w2 (.slice A1 (p.read 0).1.length c1) (p.read 0).1) ⟨H1.out.set 0 rfl (fun hk => by first | exact ⟨rfl, rfl⟩ | omega) (fun hk => by first | exact ⟨rfl, rfl⟩ | omega), sl_set S1.out _ _⟩ ?_
      rintro w2 ⟨h2, hs2⟩
      have H2 := Aside0.mk h2
      have S2 := Aside0.mk hs2
      clear h2 hs2 x0 x1 x2 x3 x4 hfz
      go_wp2_with fail
      refine (dur_calls (H2.out.rep H.out) HP.out 0).mono ?_
      rintro e w3 ⟨v, rfl, hf⟩
      obtain ⟨A2, c2, rfl, _⟩ := Kd.R_slice_len hf.1
      have h3 := H2.out.next hf.2
      have hs3 := sl_fresh H2.out.lt hf
      have hs4 := S2.out.upd (Upd.of_below hf.2 (fun _ => False)) (fun _ h_ => h_.elim)
      clear hf
      obtain ⟨x0, x1, x2, x3, x4⟩ := ss_cells h3
      have hfz := blk_frozen h3.box
      have H3 := Aside0.mk h3
      have S3 := Aside0.mk hs3
      have S4 := Aside0.mk hs4
      clear h3 hs3 hs4
      go_wp2_with fail
      go_roundw
      case rel =>
        exact ⟨1, (.slice A1 (p.read 0).1.length c1), v1, (.slice A2 (p.dur 0).1.length c2), v3, by omega, by first | rfl | go_num, ⟨SS.up0 (H3.out.set 2 rfl (fun hk => by first | exact ⟨rfl, rfl⟩ | omega) (fun hk => by first | exact ⟨rfl, rfl⟩ | omega)) (sl_set S4.out _ _) (sl_set S3.out _ _)⟩⟩
      case measure => simp [intOf]
    · go_wp2_with fail
      refine (read_calls (HK.out.rep H.out) HP.out 1).mono ?_
      rintro e w1 ⟨v, rfl, hf⟩
      obtain ⟨A1, c1, rfl, _⟩ := Kd.R_slice_len hf.1
      have h1 := HK.out.next hf.2
      have hs1 := sl_fresh HK.out.lt hf
      clear hf x0 x1 x2 x3 x4 hfz
      obtain ⟨x0, x1, x2, x3, x4⟩ := ss_cells h1
      have hfz := blk_frozen h1.box
      have H1 := Aside0.mk h1
      have S1 := Aside0.mk hs1
      clear h1 hs1
      go_wp2_with fail
      refine gen_calls (fun w2 => SS W w2 o g p 1 v0 (.slice A1 (p.read 1).1.length c1) v2 v3 ∧ Sl W w2 (.slice A1 (p.read 1).1.length c1) (p.read 1).1) ⟨H1.out.set 1 rfl (fun hk => by first | exact ⟨rfl, rfl⟩ | omega) (fun hk => by first | exact ⟨rfl, rfl⟩ | omega), sl_set S1.out _ _⟩ ?_
      rintro w2 ⟨h2, hs2⟩
      have H2 := Aside0.mk h2
      have S2 := Aside0.mk hs2
      clear h2 hs2 x0 x1 x2 x3 x4 hfz
      go_wp2_with fail
      refine (dur_calls (H2.out.rep H.out) HP.out 1).mono ?_
      rintro e w3 ⟨v, rfl, hf⟩
      obtain ⟨A2, c2, rfl, _⟩ := Kd.R_slice_len hf.1
      have h3 := H2.out.next hf.2
      have hs3 := sl_fresh H2.out.lt hf
      have hs4 := S2.out.upd (Upd.of_below hf.2 (fun _ => False)) (fun _ h_ => h_.elim)
      clear hf
      obtain ⟨x0, x1, x2, x3, x4⟩ := ss_cells h3
      have hfz := blk_frozen h3.box
      have H3 := Aside0.mk h3
      have S3 := Aside0.mk hs3
      have S4 := Aside0.mk hs4
      clear h3 hs3 hs4
      go_wp2_with fail
      go_roundw
      case rel =>
        exact ⟨2, v0, (.slice A1 (p.read 1).1.length c1), v2, (.slice A2 (p.dur 1).1.length c2), by omega, by first | rfl | go_num, ⟨SS.up1 (H3.out.set 3 rfl (fun hk => by first | exact ⟨rfl, rfl⟩ | omega) (fun hk => by first | exact ⟨rfl, rfl⟩ | omega)) (sl_set S4.out _ _) (sl_set S3.out _ _)⟩⟩
      case measure => simp [intOf]
    · have hk0 := HK.out.r0 (by omega)
      have hk1 := HK.out.r1 (by omega)
      obtain ⟨A0, c0, rfl, _⟩ := hk0.1
      obtain ⟨A1, c1, rfl, _⟩ := hk1.1
      obtain ⟨A2, c2, rfl, _⟩ := hk0.2
      obtain ⟨A3, c3, rfl, _⟩ := hk1.2
      obtain ⟨z0, z1, z2, z3, z4⟩ := so_cells HK.out
      have hfo := blk_frozen HK.out.out
      have K0 := Aside0.mk hk0
      have K1 := Aside0.mk hk1
      clear hk0 hk1
      go_wp2
      refine bodyPost_ret (ret41 Try.results22 _ _ W.heap.size #[.slice A0 (p.read 0).1.length c0, .slice A1 (p.read 1).1.length c1, .slice A2 (p.dur 0).1.length c2, .slice A3 (p.dur 1).1.length c3, .bool p.dn] rfl (blk_put (blk_put (blk_put (blk_put (blk_put HK.out.out 0 _ rfl) 1 _ rfl) 2 _ rfl) 3 _ rfl) 4 _ rfl) rfl) rfl ⟨_, _, _, _, rfl, ?_, sl_out K0.out.1 _ _ _ _ _, sl_out K1.out.1 _ _ _ _ _, sl_out K0.out.2 _ _ _ _ _, sl_out K1.out.2 _ _ _ _ _⟩
      exact ((((HK.out.below.setCell (Nat.le_refl _) _).setCell (Nat.le_refl _) _).setCell (Nat.le_refl _) _).setCell (Nat.le_refl _) _).setCell (Nat.le_refl _) _
end Go.Proofs.Yticokogggepfoaa.D
