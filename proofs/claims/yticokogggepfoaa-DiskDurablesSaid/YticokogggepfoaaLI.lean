/- side: what a disk is seen to hold, told. done: one operation of a script done to a disk. No condition but that the disk is whole. done: the other operations, and all of them. No condition but that the disk is whole. same: one operation done to two disks, and told whether they answer alike. No condition but that the disks are whole and apart. same: reads, what is durable, down, writes; and all of it. No condition but that the disks are whole and apart. No condition but what is said. -/
import Derived.Test.YticokogggepfoaaLD
namespace Go.Proofs.Yticokogggepfoaa.D
open Go.RowKit Go.Proofs.YticokogggepfoaaW.PrintWords Go.Proofs.YticokogggepfoaaW.PrintLast Go.Proofs.YticokogggepfoaaW.PrintMore Go.Proofs.Yticokogggepfoaa.G
attribute [local go_sem] max2_int min2_int max_two min_two max_three min_three max_four min_four
set_option linter.unusedVariables false
set_option linter.unusedSimpArgs false
set_option maxRecDepth 100000
theorem gen_calls {P : Program} {fn : FuncId} {args : Array Value} {Q : Ending → World → Prop} {W : World} (F : World → Prop) (h0 : F W) (h : ∀ W2, F W2 → Calls P fn args W2 Q) : Calls P fn args W Q := h W h0
/-- A slice of bytes in blocks that are new since W. -/
def Sl (W w : World) (v : Value) (l : List Int) : Prop := ∃ A c, v = .slice A l.length c ∧ l.length ≤ c ∧ Kd.F By w (fun k => W.heap.size + 1 < k) A l.length l ∧ ∀ k, v.ownBlock = some k → W.heap.size + 1 < k ∧ ∃ cells, w.heap[k]? = some (.cells cells 5 (0, 0))
theorem Sl.upd {W w w' : World} {v : Value} {l : List Int} {S : Nat → Prop} (h : Sl W w v l) (hu : Upd w w' S) (hS : ∀ k, S k → k < W.heap.size + 2 ∨ w.heap.size ≤ k) : Sl W w' v l := by
  obtain ⟨A, c, rfl, h1, h2, h3⟩ := h
  refine ⟨A, c, rfl, h1, f_upd h2 hu (fun k hk hlt hs => by rcases hS k hs with h_ | h_ <;> omega), fun k hk => ?_⟩
  obtain ⟨h4, cells, h5⟩ := h3 k hk
  exact ⟨h4, cells, (hu.block k (blk_lt h5) (fun hs => by have := blk_lt h5; rcases hS k hs with h_ | h_ <;> omega)).trans h5⟩
theorem sl_fresh {W w w' : World} {v : Value} {l : List Int} (hlt : W.heap.size + 1 < w.heap.size) (h : Fresh w l v w') : Sl W w' v l := by
  obtain ⟨A, c, rfl, h1⟩ := Kd.R_slice_len h.1
  exact ⟨A, c, rfl, h1, Kd.F_mono (f_of_R h.1) (fun k hk => by have := hk.2.1; omega), fun k hk => ⟨by have := Kd.R_base h.1 k hk; omega, Kd.R_typed h.1 k hk⟩⟩
@[reducible] def zero41 : Array Value := #[.slice none 0 0, .slice none 0 0, .slice none 0 0, .slice none 0 0, .bool false]
/-- side's work: the cell of its answer, its own cell, what is read so far (k files). -/
structure SS (W w : World) (o : Nat → Prop) (g : Nat) (p : PM) (k : Nat) (v0 v1 v2 v3 : Value) : Prop where
  out : w.heap[W.heap.size]? = some (.cells zero41 41 (0, 0))
  box : w.heap[W.heap.size + 1]? = some (.cells #[v0, v1, v2, v3, .bool p.dn] 41 (0, 0))
  below : Below W.heap.size W w
  r0 : 1 ≤ k → Sl W w v0 (p.read 0).1 ∧ Sl W w v2 (p.dur 0).1
  r1 : 2 ≤ k → Sl W w v1 (p.read 1).1 ∧ Sl W w v3 (p.dur 1).1
section
variable {W w w' : World} {o : Nat → Prop} {g k : Nat} {p : PM} {v0 v1 v2 v3 : Value}
theorem SS.next (h : SS W w o g p k v0 v1 v2 v3) (hb : Below w.heap.size w w') : SS W w' o g p k v0 v1 v2 v3 :=
  ⟨blk_below h.out hb, blk_below h.box hb, h.below.trans (hb.mono h.below.size),
   fun hk => ⟨(h.r0 hk).1.upd (Upd.of_below hb (fun _ => False)) (fun _ h_ => h_.elim), (h.r0 hk).2.upd (Upd.of_below hb (fun _ => False)) (fun _ h_ => h_.elim)⟩,
   fun hk => ⟨(h.r1 hk).1.upd (Upd.of_below hb (fun _ => False)) (fun _ h_ => h_.elim), (h.r1 hk).2.upd (Upd.of_below hb (fun _ => False)) (fun _ h_ => h_.elim)⟩⟩
theorem SS.set (h : SS W w o g p k v0 v1 v2 v3) {u0 u1 u2 u3 u : Value} (j : Nat) (he : (#[v0, v1, v2, v3, .bool p.dn] : Array Value).setIfInBounds j u = #[u0, u1, u2, u3, .bool p.dn]) (e0 : 1 ≤ k → u0 = v0 ∧ u2 = v2) (e1 : 2 ≤ k → u1 = v1 ∧ u3 = v3) : SS W (w.setCell ⟨W.heap.size + 1, j, none⟩ u) o g p k u0 u1 u2 u3 := by
  have hU : Upd w (w.setCell ⟨W.heap.size + 1, j, none⟩ u) (fun k => k = W.heap.size + 1) := Upd.setCell (S := fun k => k = W.heap.size + 1) (Upd.refl w _) (p := ⟨W.heap.size + 1, j, none⟩) (fun _ => rfl) u
  have hS : ∀ k, k = W.heap.size + 1 → k < W.heap.size + 2 ∨ w.heap.size ≤ k := fun k hk => .inl (by omega)
  refine ⟨(hU.block _ (blk_lt h.out) (by omega)).trans h.out, blk_put h.box j u he, h.below.setCell (Nat.le_succ _) u, fun hk => ?_, fun hk => ?_⟩
  · rw [(e0 hk).1, (e0 hk).2]; exact ⟨(h.r0 hk).1.upd hU hS, (h.r0 hk).2.upd hU hS⟩
  · rw [(e1 hk).1, (e1 hk).2]; exact ⟨(h.r1 hk).1.upd hU hS, (h.r1 hk).2.upd hU hS⟩
theorem sl_set {l : List Int} {v : Value} (h : Sl W w v l) (j : Nat) (u : Value) : Sl W (w.setCell ⟨W.heap.size + 1, j, none⟩ u) v l :=
  h.upd (Upd.setCell (S := fun k => k = W.heap.size + 1) (Upd.refl w _) (p := ⟨W.heap.size + 1, j, none⟩) (fun _ => rfl) u) (fun k hk => .inl (by omega))
theorem sl_set0 {l : List Int} {v : Value} (h : Sl W w v l) (j : Nat) (u : Value) : Sl W (w.setCell ⟨W.heap.size, j, none⟩ u) v l :=
  h.upd (Upd.setCell (S := fun k => k = W.heap.size) (Upd.refl w _) (p := ⟨W.heap.size, j, none⟩) (fun _ => rfl) u) (fun k hk => .inl (by omega))
theorem sl_out {l : List Int} {v : Value} (h : Sl W w v l) (u0 u1 u2 u3 u4 : Value) : Sl W (((((w.setCell ⟨W.heap.size, 0, none⟩ u0).setCell ⟨W.heap.size, 1, none⟩ u1).setCell ⟨W.heap.size, 2, none⟩ u2).setCell ⟨W.heap.size, 3, none⟩ u3).setCell ⟨W.heap.size, 4, none⟩ u4) v l :=
  sl_set0 (sl_set0 (sl_set0 (sl_set0 (sl_set0 h 0 _) 1 _) 2 _) 3 _) 4 _
theorem SS.up0 (h : SS W w o g p 0 v0 v1 v2 v3) (a : Sl W w v0 (p.read 0).1) (b : Sl W w v2 (p.dur 0).1) : SS W w o g p 1 v0 v1 v2 v3 := ⟨h.out, h.box, h.below, fun _ => ⟨a, b⟩, fun hk => by omega⟩
theorem SS.up1 (h : SS W w o g p 1 v0 v1 v2 v3) (a : Sl W w v1 (p.read 1).1) (b : Sl W w v3 (p.dur 1).1) : SS W w o g p 2 v0 v1 v2 v3 := ⟨h.out, h.box, h.below, fun _ => h.r0 (Nat.le_refl _), fun _ => ⟨a, b⟩⟩
theorem ss_cells (h : SS W w o g p k v0 v1 v2 v3) : w.cell? ⟨W.heap.size + 1, 0, none⟩ = some v0 ∧ w.cell? ⟨W.heap.size + 1, 1, none⟩ = some v1 ∧ w.cell? ⟨W.heap.size + 1, 2, none⟩ = some v2 ∧ w.cell? ⟨W.heap.size + 1, 3, none⟩ = some v3 ∧ w.cell? ⟨W.heap.size + 1, 4, none⟩ = some (.bool p.dn) := by
  refine ⟨?_, ?_, ?_, ?_, ?_⟩ <;> exact (blk_cell h.box _).trans rfl
theorem so_cells (h : SS W w o g p k v0 v1 v2 v3) : w.cell? ⟨W.heap.size, 0, none⟩ = some (.slice none 0 0) ∧ w.cell? ⟨W.heap.size, 1, none⟩ = some (.slice none 0 0) ∧ w.cell? ⟨W.heap.size, 2, none⟩ = some (.slice none 0 0) ∧ w.cell? ⟨W.heap.size, 3, none⟩ = some (.slice none 0 0) ∧ w.cell? ⟨W.heap.size, 4, none⟩ = some (.bool false) := by
  refine ⟨?_, ?_, ?_, ?_, ?_⟩ <;> exact (blk_cell h.out _).trans rfl
theorem SS.lt (h : SS W w o g p k v0 v1 v2 v3) : W.heap.size + 1 < w.heap.size := blk_lt h.box
theorem SS.rep {B : Nat} (h : SS W w o g p k v0 v1 v2 v3) (r : Rep W B o g p) : Rep w B o g p := r.upd (Upd.of_below h.below (fun _ => False)) (fun _ _ _ hk => hk)
theorem SS.new (W : World) : SS W ((W.alloc (.cells zero41 41)).alloc (.cells #[.slice none 0 0, .slice none 0 0, .slice none 0 0, .slice none 0 0, .bool p.dn] 41)) o g p 0 (.slice none 0 0) (.slice none 0 0) (.slice none 0 0) (.slice none 0 0) :=
  ⟨(Below.heap_alloc _ _ _ (by simp)).trans (heap_alloc_new W _), by have := heap_alloc_new (W.alloc (.cells zero41 41)) (.cells #[.slice none 0 0, .slice none 0 0, .slice none 0 0, .slice none 0 0, .bool p.dn] 41); simpa using this,
   below_alloc (below_alloc (Below.refl _ _) _) _, fun hk => by omega, fun hk => by omega⟩
end
theorem info41 : (Try.prog.info? 41).map (·.size) = some 5 := by kernel_rfl
theorem ret41 {fn : Func} {p : Tmp} (h : fn.results = #[.cell p 41]) (tmps : Array Value) (w : World) (g : Nat) (cs : Array Value) (hp : tmps.getD p undef = .pointer (some ⟨g, 0, none⟩)) (hg : w.heap[g]? = some (.cells cs 41 (0, 0))) (hs : cs.size = 5) :
    (results fn tmps).run Try.prog w = .ok (.agg cs) w := results_single (r := .cell p 41) h (.cell g 41 cs (0, 0) _ hp hg Try.underlying41 rfl (by rw [hs]; exact info41) .nil)
set_option maxHeartbeats 2000000 in
theorem side_calls {W : World} {B g : Nat} {o : Nat → Prop} {p : PM} (h : Rep W B o g p) (hp : p.ok) : Calls Try.prog 22 #[.pointer (some ⟨g, 0, none⟩)] W fun e W' => ∃ v0 v1 v2 v3, e = .returned (.agg #[v0, v1, v2, v3, .bool p.dn]) ∧ Below W.heap.size W W' ∧ Sl W W' v0 (p.read 0).1 ∧ Sl W W' v1 (p.read 1).1 ∧ Sl W W' v2 (p.dur 0).1 ∧ Sl W W' v3 (p.dur 1).1 := by
  have H := Aside0.mk h
  have HP := Aside0.mk hp
  clear h hp
  go_enter Try.func22, Try.ntmps22
  go_wp2_with fail
  refine (down_calls (H.out.upd (Upd.of_below (below_alloc (below_alloc (Below.refl _ _) _) _) (fun _ => False)) (fun _ _ _ hk => hk))).mono ?_
  rintro e w1 ⟨rfl, rfl⟩
  go_wp2_with fail
  go_loopw [4] (fun i wr => ∃ (k : Nat) (v0 v1 v2 v3 : Value), k ≤ 2 ∧ i = .int .i64 (k : Int) ∧ Aside0 (SS W wr o g p k v0 v1 v2 v3)) (fun i _ => 2 - (intOf i).toNat)
  case atStart =>
    exact ⟨0, _, _, _, _, by omega, rfl, ⟨SS.new W⟩⟩
  case round =>
    obtain ⟨k, v0, v1, v2, v3, hk, rfl, HK⟩ := hrel
    obtain ⟨x0, x1, x2, x3, x4⟩ := ss_cells HK.out
    have hfz := blk_frozen HK.out.box
    rcases (show k = 0 ∨ k = 1 ∨ k = 2 by omega) with rfl | rfl | rfl
    · go_wp2_with fail
      refine (read_calls (HK.out.rep H.out) HP.out 0).mono ?_
      rintro e w1 ⟨v, rfl, hf⟩
      obtain ⟨A1, c1, rfl, _⟩ := Kd.R_slice_len hf.1
      have h1 := HK.out.next hf.2
      have hs1 := sl_fresh HK.out.lt hf
      clear hf x0 x1 x2 x3 x4 hfz
      obtain ⟨x0, x1, x2, x3, x4⟩ := ss_cells h1
      have hfz := blk_frozen h1.box
      have H1 := Aside0.mk h1
      have S1 := Aside0.mk hs1
      clear h1 hs1
      go_wp2_with fail
      refine gen_calls (fun w2 => SS W w2 o g p 0 (.slice A1 (p.read 0).1.length c1) v1 v2 v3 ∧ Sl W w2 (.slice A1 (p.read 0).1.length c1) (p.read 0).1) ⟨H1.out.set 0 rfl (fun hk => by first | exact ⟨rfl, rfl⟩ | omega) (fun hk => by first | exact ⟨rfl, rfl⟩ | omega), sl_set S1.out _ _⟩ ?_
      rintro w2 ⟨h2, hs2⟩
      have H2 := Aside0.mk h2
      have S2 := Aside0.mk hs2
      clear h2 hs2 x0 x1 x2 x3 x4 hfz
      go_wp2_with fail
      refine (dur_calls (H2.out.rep H.out) HP.out 0).mono ?_
      rintro e w3 ⟨v, rfl, hf⟩
      obtain ⟨A2, c2, rfl, _⟩ := Kd.R_slice_len hf.1
      have h3 := H2.out.next hf.2
      have hs3 := sl_fresh H2.out.lt hf
      have hs4 := S2.out.upd (Upd.of_below hf.2 (fun _ => False)) (fun _ h_ => h_.elim)
      clear hf
      obtain ⟨x0, x1, x2, x3, x4⟩ := ss_cells h3
      have hfz := blk_frozen h3.box
      have H3 := Aside0.mk h3
      have S3 := Aside0.mk hs3
      have S4 := Aside0.mk hs4
      clear h3 hs3 hs4
      go_wp2_with fail
      go_roundw
      case rel =>
        exact ⟨1, (.slice A1 (p.read 0).1.length c1), v1, (.slice A2 (p.dur 0).1.length c2), v3, by omega, by first | rfl | go_num, ⟨SS.up0 (H3.out.set 2 rfl (fun hk => by first | exact ⟨rfl, rfl⟩ | omega) (fun hk => by first | exact ⟨rfl, rfl⟩ | omega)) (sl_set S4.out _ _) (sl_set S3.out _ _)⟩⟩
      case measure => simp [intOf]
    · go_wp2_with fail
      refine (read_calls (HK.out.rep H.out) HP.out 1).mono ?_
      rintro e w1 ⟨v, rfl, hf⟩
      obtain ⟨A1, c1, rfl, _⟩ := Kd.R_slice_len hf.1
      have h1 := HK.out.next hf.2
      have hs1 := sl_fresh HK.out.lt hf
      clear hf x0 x1 x2 x3 x4 hfz
      obtain ⟨x0, x1, x2, x3, x4⟩ := ss_cells h1
      have hfz := blk_frozen h1.box
      have H1 := Aside0.mk h1
      have S1 := Aside0.mk hs1
      clear h1 hs1
      go_wp2_with fail
      refine gen_calls (fun w2 => SS W w2 o g p 1 v0 (.slice A1 (p.read 1).1.length c1) v2 v3 ∧ Sl W w2 (.slice A1 (p.read 1).1.length c1) (p.read 1).1) ⟨H1.out.set 1 rfl (fun hk => by first | exact ⟨rfl, rfl⟩ | omega) (fun hk => by first | exact ⟨rfl, rfl⟩ | omega), sl_set S1.out _ _⟩ ?_
      rintro w2 ⟨h2, hs2⟩
      have H2 := Aside0.mk h2
      have S2 := Aside0.mk hs2
      clear h2 hs2 x0 x1 x2 x3 x4 hfz
      go_wp2_with fail
      refine (dur_calls (H2.out.rep H.out) HP.out 1).mono ?_
      rintro e w3 ⟨v, rfl, hf⟩
      obtain ⟨A2, c2, rfl, _⟩ := Kd.R_slice_len hf.1
      have h3 := H2.out.next hf.2
      have hs3 := sl_fresh H2.out.lt hf
      have hs4 := S2.out.upd (Upd.of_below hf.2 (fun _ => False)) (fun _ h_ => h_.elim)
      clear hf
      obtain ⟨x0, x1, x2, x3, x4⟩ := ss_cells h3
      have hfz := blk_frozen h3.box
      have H3 := Aside0.mk h3
      have S3 := Aside0.mk hs3
      have S4 := Aside0.mk hs4
      clear h3 hs3 hs4
      go_wp2_with fail
      go_roundw
      case rel =>
        exact ⟨2, v0, (.slice A1 (p.read 1).1.length c1), v2, (.slice A2 (p.dur 1).1.length c2), by omega, by first | rfl | go_num, ⟨SS.up1 (H3.out.set 3 rfl (fun hk => by first | exact ⟨rfl, rfl⟩ | omega) (fun hk => by first | exact ⟨rfl, rfl⟩ | omega)) (sl_set S4.out _ _) (sl_set S3.out _ _)⟩⟩
      case measure => simp [intOf]
    · have hk0 := HK.out.r0 (by omega)
      have hk1 := HK.out.r1 (by omega)
      obtain ⟨A0, c0, rfl, _⟩ := hk0.1
      obtain ⟨A1, c1, rfl, _⟩ := hk1.1
      obtain ⟨A2, c2, rfl, _⟩ := hk0.2
      obtain ⟨A3, c3, rfl, _⟩ := hk1.2
      obtain ⟨z0, z1, z2, z3, z4⟩ := so_cells HK.out
      have hfo := blk_frozen HK.out.out
      have K0 := Aside0.mk hk0
      have K1 := Aside0.mk hk1
      clear hk0 hk1
      go_wp2
      refine bodyPost_ret (ret41 Try.results22 _ _ W.heap.size #[.slice A0 (p.read 0).1.length c0, .slice A1 (p.read 1).1.length c1, .slice A2 (p.dur 0).1.length c2, .slice A3 (p.dur 1).1.length c3, .bool p.dn] rfl (blk_put (blk_put (blk_put (blk_put (blk_put HK.out.out 0 _ rfl) 1 _ rfl) 2 _ rfl) 3 _ rfl) 4 _ rfl) rfl) rfl ⟨_, _, _, _, rfl, ?_, sl_out K0.out.1 _ _ _ _ _, sl_out K1.out.1 _ _ _ _ _, sl_out K0.out.2 _ _ _ _ _, sl_out K1.out.2 _ _ _ _ _⟩
      exact ((((HK.out.below.setCell (Nat.le_refl _) _).setCell (Nat.le_refl _) _).setCell (Nat.le_refl _) _).setCell (Nat.le_refl _) _).setCell (Nat.le_refl _) _
end Go.Proofs.Yticokogggepfoaa.D
namespace Go.Proofs.Yticokogggepfoaa.D
open Go.RowKit Go.Proofs.YticokogggepfoaaW.PrintWords Go.Proofs.YticokogggepfoaaW.PrintLast Go.Proofs.YticokogggepfoaaW.PrintMore Go.Proofs.Yticokogggepfoaa.G
attribute [local go_sem] max2_int min2_int max_two min_two max_three min_three max_four min_four
set_option linter.unusedVariables false
set_option linter.unusedSimpArgs false
set_option maxRecDepth 100000
/-- An operation of a script. -/
structure OM where
  kd : Int
  ot : Bool
  fl : Int
  a : Int
  b : Int
  data : List Int
def OM.hand (m : OM) : List Int := if m.kd = 2 then (if m.a < 0 ∨ 16777224 < m.a then [] else List.replicate m.a.toNat 0) else m.data
def OM.done (m : OM) (p : PM) : PM × Int :=
  if m.kd = 1 ∨ m.kd = 2 then p.append m.fl m.hand else if m.kd = 3 then p.syncf m.fl else if m.kd = 4 then p.trunc m.fl m.a
  else if m.kd = 7 then p.arm m.a m.b else if m.kd = 8 then (p.disarm, 0) else if m.kd = 9 then p.restart else (p, 0)
@[reducible] def OV (m : OM) (A : Option Addr) (c : Nat) : Array Value := #[.int .i64 m.kd, .bool m.ot, .int .i64 m.fl, .int .i64 m.a, .int .i64 m.b, .slice A m.data.length c]
section
variable {W w : World} {B g : Nat} {ok : Nat → Prop} {p : PM} {m : OM} {A : Option Addr} {c : Nat}
theorem OM.hand_len (h : m.data.length < 140737488355328) : m.hand.length ≤ 140737488355328 := by
  unfold OM.hand; split <;> try split <;> simp <;> omega
  omega
theorem hand_calls (hC : Kd.C By W A m.data.length m.data) (hc : m.data.length ≤ c) (hl : m.data.length < 140737488355328) : Calls Try.prog 43 #[.agg (OV m A c)] W fun e W' => ∃ v, e = .returned v ∧ Fresh W m.hand v W' := by
  refine (arrearslaw5_handed.calls m.kd m.ot m.fl m.a m.b A c m.data m.hand W hC hc ?_).mono fun e W' ⟨v, he, hr, hb⟩ => ⟨v, he, hr, hb⟩
  unfold arrearslaw5_handed.f OM.hand
  by_cases h : m.kd = 2
  · rw [if_pos h, if_pos h]
    by_cases h1 : m.a < 0
    · rw [if_pos h1, if_pos (.inl h1)]
    · by_cases h2 : m.a > 16777224
      · rw [if_neg h1, if_pos h2, if_pos (.inr h2)]
      · rw [if_neg h1, if_neg h2, if_pos (show 0 ≤ m.a by omega), if_pos (show m.a.toNat ≤ 281474976710656 by omega), if_neg (show ¬ (m.a < 0 ∨ 16777224 < m.a) by omega)]
  · rw [if_neg h, if_neg h]
    unfold arrearslaw5_copied.f; rw [if_pos (by simpa using hl)]; rfl
/-- What a call of the disk leaves. -/
def Did (W : World) (B g : Nat) (ok : Nat → Prop) (r : PM × Int) (e : Ending) (W' : World) : Prop := e = .returned (.int .i64 r.2) ∧ Rep W' B (fun k => ok k ∨ W.heap.size ≤ k) g r.1 ∧ Upd W W' ok
theorem Did.of {w1 w2 w' : World} {r : PM × Int} (hb : Below W.heap.size W w1) (hr : Rep w' B (fun k => ok k ∨ w1.heap.size ≤ k) g r.1) (hu : Upd w1 w' ok) : Rep w' B (fun k => ok k ∨ W.heap.size ≤ k) g r.1 ∧ Upd W w' ok :=
  ⟨hr.mono (fun k hk => hk.elim .inl (fun h => .inr (Nat.le_trans hb.size h))), (Upd.of_below hb ok).then_ hu (fun _ _ h => h)⟩
theorem Rep.later (h : Rep W B ok g p) (hb : Below W.heap.size W w) : Rep w B ok g p := h.upd (Upd.of_below hb (fun _ => False)) (fun _ _ _ hk => hk)
theorem below_drop {w2 w3 : World} {n : Nat} (h : Below w2.drew.heap.size w2.drew w3) (hn : n ≤ w2.heap.size) : Below n w2 w3 := (below_drew1 (Below.refl n w2)).trans (h.mono hn)
theorem ov_cells (h : W.heap[g]? = some (.cells (OV m A c) 45 (0, 0))) : W.cell? ⟨g, 0, none⟩ = some (.int .i64 m.kd) ∧ W.cell? ⟨g, 1, none⟩ = some (.bool m.ot) ∧ W.cell? ⟨g, 2, none⟩ = some (.int .i64 m.fl) ∧ W.cell? ⟨g, 3, none⟩ = some (.int .i64 m.a) ∧ W.cell? ⟨g, 4, none⟩ = some (.int .i64 m.b) ∧ W.cell? ⟨g, 5, none⟩ = some (.slice A m.data.length c) := by
  refine ⟨?_, ?_, ?_, ?_, ?_, ?_⟩ <;> exact (blk_cell h _).trans rfl
set_option maxHeartbeats 4000000 in
theorem done_append (h : Rep W B ok g p) (hp : p.ok) (hBW : B ≤ W.heap.size) (hC : Kd.C By W A m.data.length m.data) (hc : m.data.length ≤ c) (hl : m.data.length < 140737488355328) (hk : m.kd = 1 ∨ m.kd = 2) :
    Calls Try.prog 26 #[.pointer (some ⟨g, 0, none⟩), .agg (OV m A c)] W (Did W B g ok (m.done p)) := by
  have e : m.done p = p.append m.fl m.hand := by unfold OM.done; rw [if_pos hk]
  rw [e]; clear e
  have H := Aside0.mk h
  have HP := Aside0.mk hp
  have HBW := Aside0.mk hBW
  have HC := Aside0.mk hC
  have HCC := Aside0.mk hc
  have HL := Aside0.mk hl
  have hu45 := Try.underlying45
  obtain ⟨kd, ot, fl, a, b, data⟩ := m
  clear h hp hBW hC hc hl
  dsimp only at hk
  rcases hk with rfl | rfl
  all_goals
    go_enter Try.func26, Try.ntmps26
    go_wp2_with fail
    refine gen_world (fun w2 => w2.heap[W.heap.size]? = some (.cells (OV ⟨_, ot, fl, a, b, data⟩ A c) 45 (0, 0)) ∧ Kd.C By w2 A data.length data ∧ Below W.heap.size W w2) ⟨heap_alloc_new W _, Kd.C_alloc HC.out _, below_alloc (Below.refl _ _) _⟩ ?_
    rintro w2 ⟨hx, hc2, hb2⟩
    obtain ⟨x0, x1, x2, x3, x4, x5⟩ := ov_cells hx
    have hfz := blk_frozen hx
    have HX := Aside0.mk hx
    have HC2 := Aside0.mk hc2
    have HB2 := Aside0.mk hb2
    clear hx hc2 hb2
    go_region_with (first
      | (go_at_call 43; (with_reducible refine (hand_calls (m := ⟨_, ot, fl, a, b, data⟩) (Kd.C_drew HC2.out) HCC.out HL.out).mono ?_); rintro e w3 ⟨v, rfl, hf⟩; obtain ⟨A1, c1, rfl, _⟩ := Kd.R_slice_len hf.1; have HF := Aside0.mk hf; have HB := Aside0.mk (HB2.out.trans (below_drop hf.2 HB2.out.size)); have hx3 := blk_below (w := World.drew w2) HX.out hf.2; obtain ⟨y0, y1, y2, y3, y4, y5⟩ := ov_cells hx3; have hfz3 := blk_frozen hx3; clear hf hx3 y0 y1 y3 y4 y5)
      | (go_at_call 14; (with_reducible refine (append_calls (H.out.later HB.out) HP.out (Nat.le_trans HBW.out HB.out.size) _ _ _ _ HF.out.reads (OM.hand_len (m := ⟨_, ot, fl, a, b, data⟩) HL.out)).mono ?_); rintro e w4 ⟨rfl, hr, hu⟩; have HD := Aside0.mk (Did.of (w2 := w3) HB.out hr hu); clear hr hu))
    all_goals
      go_wp2_with fail
      go_ret
      exact ⟨rfl, HD.out⟩
end
end Go.Proofs.Yticokogggepfoaa.D
namespace Go.Proofs.Yticokogggepfoaa.D
open Go.RowKit Go.Proofs.YticokogggepfoaaW.PrintWords Go.Proofs.YticokogggepfoaaW.PrintLast Go.Proofs.YticokogggepfoaaW.PrintMore Go.Proofs.Yticokogggepfoaa.G
attribute [local go_sem] max2_int min2_int max_two min_two max_three min_three max_four min_four
set_option linter.unusedVariables false
set_option linter.unusedSimpArgs false
set_option maxRecDepth 100000
section
variable {W w : World} {B g : Nat} {ok : Nat → Prop} {p : PM} {m : OM} {A : Option Addr} {c : Nat}
theorem Did.of0 {w1 w' : World} {r : PM × Int} (hb : Below W.heap.size W w1) (hr : Rep w' B ok g r.1) (hu : Upd w1 w' ok) : Rep w' B (fun k => ok k ∨ W.heap.size ≤ k) g r.1 ∧ Upd W w' ok :=
  ⟨hr.mono (fun k hk => .inl hk), (Upd.of_below hb ok).then_ hu (fun _ _ h => h)⟩
theorem bx (W : World) (o : Obj) : Below W.heap.size W (W.alloc o) := below_alloc (Below.refl _ _) _
set_option maxHeartbeats 4000000 in
theorem done_sync (h : Rep W B ok g p) (hp : p.ok) (hBW : B ≤ W.heap.size) (hk : m.kd = 3) :
    Calls Try.prog 26 #[.pointer (some ⟨g, 0, none⟩), .agg (OV m A c)] W (Did W B g ok (m.done p)) := by
  have e : m.done p = p.syncf m.fl := by unfold OM.done; rw [if_neg (by omega), if_pos hk]
  rw [e]; clear e
  have H := Aside0.mk h
  have HP := Aside0.mk hp
  have HBW := Aside0.mk hBW
  have hu45 := Try.underlying45
  obtain ⟨kd, ot, fl, a, b, data⟩ := m
  clear h hp hBW
  dsimp only at hk
  subst hk
  go_enter Try.func26, Try.ntmps26
  go_wp2_with fail
  refine (sync_calls (H.out.later (bx W _)) HP.out (Nat.le_trans HBW.out (bx W _).size) _).mono ?_
  rintro e w2 ⟨rfl, hr, hu⟩
  have HD := Aside0.mk (Did.of (w2 := w2) (bx W _) hr hu)
  clear hr hu
  go_wp2_with fail
  go_ret
  exact ⟨rfl, HD.out⟩
set_option maxHeartbeats 4000000 in
theorem done_trunc (h : Rep W B ok g p) (hp : p.ok) (hBW : B ≤ W.heap.size) (hk : m.kd = 4) :
    Calls Try.prog 26 #[.pointer (some ⟨g, 0, none⟩), .agg (OV m A c)] W (Did W B g ok (m.done p)) := by
  have e : m.done p = p.trunc m.fl m.a := by unfold OM.done; rw [if_neg (by omega), if_neg (by omega), if_pos hk]
  rw [e]; clear e
  have H := Aside0.mk h
  have HP := Aside0.mk hp
  have HBW := Aside0.mk hBW
  have hu45 := Try.underlying45
  obtain ⟨kd, ot, fl, a, b, data⟩ := m
  clear h hp hBW
  dsimp only at hk
  subst hk
  go_enter Try.func26, Try.ntmps26
  go_wp2_with fail
  refine (trunc_calls (H.out.later (bx W _)) HP.out (Nat.le_trans HBW.out (bx W _).size) _ _).mono ?_
  rintro e w2 ⟨rfl, hr, hu⟩
  have HD := Aside0.mk (Did.of (w2 := w2) (bx W _) hr hu)
  clear hr hu
  go_wp2_with fail
  go_ret
  exact ⟨rfl, HD.out⟩
set_option maxHeartbeats 4000000 in
theorem done_arm (h : Rep W B ok g p) (hp : p.ok) (hBW : B ≤ W.heap.size) (hk : m.kd = 7) :
    Calls Try.prog 26 #[.pointer (some ⟨g, 0, none⟩), .agg (OV m A c)] W (Did W B g ok (m.done p)) := by
  have e : m.done p = p.arm m.a m.b := by unfold OM.done; rw [if_neg (by omega), if_neg (by omega), if_neg (by omega), if_pos hk]
  rw [e]; clear e
  have H := Aside0.mk h
  have HP := Aside0.mk hp
  have HBW := Aside0.mk hBW
  have hu45 := Try.underlying45
  obtain ⟨kd, ot, fl, a, b, data⟩ := m
  clear h hp hBW
  dsimp only at hk
  subst hk
  go_enter Try.func26, Try.ntmps26
  go_wp2_with fail
  refine (arm_calls (H.out.later (bx W _)) HP.out (Nat.le_trans HBW.out (bx W _).size) _ _).mono ?_
  rintro e w2 ⟨rfl, hr, hu⟩
  have HD := Aside0.mk (Did.of (w2 := w2) (bx W _) hr hu)
  clear hr hu
  go_wp2_with fail
  go_ret
  exact ⟨rfl, HD.out⟩
set_option maxHeartbeats 4000000 in
theorem done_disarm (h : Rep W B ok g p) (hk : m.kd = 8) :
    Calls Try.prog 26 #[.pointer (some ⟨g, 0, none⟩), .agg (OV m A c)] W (Did W B g ok (m.done p)) := by
  have e : m.done p = (p.disarm, 0) := by unfold OM.done; rw [if_neg (by omega), if_neg (by omega), if_neg (by omega), if_neg (by omega), if_pos hk]
  rw [e]; clear e
  have H := Aside0.mk h
  have hu45 := Try.underlying45
  obtain ⟨kd, ot, fl, a, b, data⟩ := m
  clear h
  dsimp only at hk
  subst hk
  go_enter Try.func26, Try.ntmps26
  go_wp2_with fail
  refine (disarm_calls (H.out.later (bx W _))).mono ?_
  rintro e w2 ⟨⟨v, rfl⟩, hr, hu⟩
  have HD := Aside0.mk (Did.of0 (r := (p.disarm, 0)) (bx W _) hr hu)
  clear hr hu
  go_wp2_with fail
  go_ret
  exact ⟨rfl, HD.out⟩
set_option maxHeartbeats 4000000 in
theorem done_restart (h : Rep W B ok g p) (hk : m.kd = 9) :
    Calls Try.prog 26 #[.pointer (some ⟨g, 0, none⟩), .agg (OV m A c)] W (Did W B g ok (m.done p)) := by
  have e : m.done p = p.restart := by unfold OM.done; rw [if_neg (by omega), if_neg (by omega), if_neg (by omega), if_neg (by omega), if_neg (by omega), if_pos hk]
  rw [e]; clear e
  have H := Aside0.mk h
  have hu45 := Try.underlying45
  obtain ⟨kd, ot, fl, a, b, data⟩ := m
  clear h
  dsimp only at hk
  subst hk
  go_enter Try.func26, Try.ntmps26
  go_wp2_with fail
  refine (restart_calls (H.out.later (bx W _))).mono ?_
  rintro e w2 ⟨rfl, hr, hu⟩
  have HD := Aside0.mk (Did.of0 (bx W _) hr hu)
  clear hr hu
  go_wp2_with fail
  go_ret
  exact ⟨rfl, HD.out⟩
set_option maxHeartbeats 4000000 in
theorem done_none (h : Rep W B ok g p) (hk : ¬ (m.kd = 1 ∨ m.kd = 2 ∨ m.kd = 3 ∨ m.kd = 4 ∨ m.kd = 7 ∨ m.kd = 8 ∨ m.kd = 9)) :
    Calls Try.prog 26 #[.pointer (some ⟨g, 0, none⟩), .agg (OV m A c)] W (Did W B g ok (m.done p)) := by
  have e : m.done p = (p, 0) := by unfold OM.done; rw [if_neg (by omega), if_neg (by omega), if_neg (by omega), if_neg (by omega), if_neg (by omega), if_neg (by omega)]
  rw [e]; clear e
  have H := Aside0.mk h
  have hu45 := Try.underlying45
  obtain ⟨kd, ot, fl, a, b, data⟩ := m
  clear h
  dsimp only at hk
  have d1 : (kd == (1 : Int)) = false := by simp; omega
  have d2 : (kd == (2 : Int)) = false := by simp; omega
  have d3 : (kd == (3 : Int)) = false := by simp; omega
  have d4 : (kd == (4 : Int)) = false := by simp; omega
  have d7 : (kd == (7 : Int)) = false := by simp; omega
  have d8 : (kd == (8 : Int)) = false := by simp; omega
  have d9 : (kd == (9 : Int)) = false := by simp; omega
  clear hk
  go_enter Try.func26, Try.ntmps26
  go_wp2
  go_ret
  exact ⟨rfl, Did.of0 (r := (p, 0)) (Below.refl _ _) (H.out.later (bx W _)) (Upd.of_below (bx W _) _)⟩
/-- done: what it answers, what it leaves. -/
theorem done_calls (h : Rep W B ok g p) (hp : p.ok) (hBW : B ≤ W.heap.size) (hC : Kd.C By W A m.data.length m.data) (hc : m.data.length ≤ c) (hl : m.data.length < 140737488355328) :
    Calls Try.prog 26 #[.pointer (some ⟨g, 0, none⟩), .agg (OV m A c)] W (Did W B g ok (m.done p)) := by
  by_cases h1 : m.kd = 1 ∨ m.kd = 2
  · exact done_append h hp hBW hC hc hl h1
  by_cases h3 : m.kd = 3
  · exact done_sync h hp hBW h3
  by_cases h4 : m.kd = 4
  · exact done_trunc h hp hBW h4
  by_cases h7 : m.kd = 7
  · exact done_arm h hp hBW h7
  by_cases h8 : m.kd = 8
  · exact done_disarm h h8
  by_cases h9 : m.kd = 9
  · exact done_restart h h9
  · exact done_none h (by omega)
end
end Go.Proofs.Yticokogggepfoaa.D
namespace Go.Proofs.Yticokogggepfoaa.D
open Go.RowKit Go.Proofs.YticokogggepfoaaW.PrintWords Go.Proofs.YticokogggepfoaaW.PrintLast Go.Proofs.YticokogggepfoaaW.PrintMore Go.Proofs.Yticokogggepfoaa.G
attribute [local go_sem] max2_int min2_int max_two min_two max_three min_three max_four min_four
set_option linter.unusedVariables false
set_option linter.unusedSimpArgs false
set_option maxRecDepth 100000
section
variable {W w w' : World} {o1 o2 : Nat → Prop} {g1 g2 : Nat} {p1 p2 q1 q2 : PM} {m : OM} {A : Option Addr} {c : Nat}
/-- Two disks that the call made, apart from one another. -/
def Pr (W w : World) (g1 : Nat) (p1 : PM) (g2 : Nat) (p2 : PM) : Prop := ∃ o1 o2, Dk W w o1 g1 p1 ∧ Dk W w o2 g2 p2 ∧ ∀ k, o1 k → ¬ o2 k
theorem Pr.swap (h : Pr W w g1 p1 g2 p2) : Pr W w g2 p2 g1 p1 := by
  obtain ⟨o1, o2, h1, h2, hd⟩ := h
  exact ⟨o2, o1, h2, h1, fun k hk h_ => hd k h_ hk⟩
theorem Pr.keep (h : Pr W w g1 p1 g2 p2) (hb : Below w.heap.size w w') : Pr W w' g1 p1 g2 p2 := by
  obtain ⟨o1, o2, h1, h2, hd⟩ := h
  exact ⟨o1, o2, h1.keep hb, h2.keep hb, hd⟩
theorem Pr.below (h : Pr W w g1 p1 g2 p2) : Below W.heap.size W w := by
  obtain ⟨o1, o2, h1, h2, hd⟩ := h
  exact h1.below
/-- The same, with a block of the caller's own that neither disk holds. -/
def PrX (W w : World) (x : Nat) (g1 : Nat) (p1 : PM) (g2 : Nat) (p2 : PM) : Prop := x < w.heap.size ∧ ∃ o1 o2, Dk W w o1 g1 p1 ∧ Dk W w o2 g2 p2 ∧ (∀ k, o1 k → ¬ o2 k) ∧ ∀ k, o1 k ∨ o2 k → k ≠ x
theorem PrX.out {x : Nat} (h : PrX W w x g1 p1 g2 p2) : Pr W w g1 p1 g2 p2 := by
  obtain ⟨_, o1, o2, h1, h2, hd, _⟩ := h
  exact ⟨o1, o2, h1, h2, hd⟩
theorem PrX.swap {x : Nat} (h : PrX W w x g1 p1 g2 p2) : PrX W w x g2 p2 g1 p1 := by
  obtain ⟨hx, o1, o2, h1, h2, hd, hn⟩ := h
  exact ⟨hx, o2, o1, h2, h1, fun k hk h_ => hd k h_ hk, fun k hk => hn k hk.symm⟩
theorem Pr.box (h : Pr W w g1 p1 g2 p2) (o : Obj) : PrX W (w.alloc o) w.heap.size g1 p1 g2 p2 := by
  obtain ⟨o1, o2, h1, h2, hd⟩ := h
  exact ⟨by simp, o1, o2, h1.keep (bx w o), h2.keep (bx w o), hd, fun k hk => Nat.ne_of_lt (hk.elim (h1.lt k) (h2.lt k))⟩
/-- A call of the first disk. -/
theorem PrX.call {x : Nat} (h : PrX W w x g1 p1 g2 p2) {fn : FuncId} {args : Array Value} {r : PM × Int} (hc : ∀ o, Rep w W.heap.size o g1 p1 → W.heap.size ≤ w.heap.size → Calls Try.prog fn args w (Did w W.heap.size g1 o r)) :
    Calls Try.prog fn args w fun e w' => e = .returned (.int .i64 r.2) ∧ PrX W w' x g1 r.1 g2 p2 ∧ w'.heap[x]? = w.heap[x]? := by
  obtain ⟨hx, o1, o2, h1, h2, hd, hn⟩ := h
  refine (hc o1 h1.rep h1.bw).mono fun e w' ⟨he, hr, hu⟩ => ⟨he, ⟨Nat.lt_of_lt_of_le hx hu.size, _, o2, h1.step hr hu, ⟨h2.rep.upd hu (fun k hk _ h => hd k h hk), fun k hk => Nat.lt_of_lt_of_le (h2.lt k hk) hu.size, h2.lo, hu.below h1.below h1.lo h1.bw⟩, fun k hk h => hk.1.elim (fun h_ => hd k h_ h) (fun h_ => by have := h2.lt k h; omega), fun k hk => hk.elim (fun h_ => h_.1.elim (fun h3 => hn k (.inl h3)) (fun h3 => by omega)) (fun h_ => hn k (.inr h_))⟩, hu.block x hx (fun h_ => hn x (.inl h_) rfl)⟩
theorem Pr.rep (h : Pr W w g1 p1 g2 p2) : ∃ o, Rep w W.heap.size o g1 p1 := by
  obtain ⟨o1, o2, h1, h2, hd⟩ := h
  exact ⟨o1, h1.rep⟩
theorem pr_done {x : Nat} (h : PrX W w x g1 p1 g2 p2) (hp : p1.ok) (hC : Kd.C By w A m.data.length m.data) (hc : m.data.length ≤ c) (hl : m.data.length < 140737488355328) :
    Calls Try.prog 26 #[.pointer (some ⟨g1, 0, none⟩), .agg (OV m A c)] w fun e w' => e = .returned (.int .i64 (m.done p1).2) ∧ PrX W w' x g1 (m.done p1).1 g2 p2 ∧ w'.heap[x]? = w.heap[x]? :=
  h.call fun o hr hb => done_calls hr hp hb hC hc hl
theorem pr_read (h : Pr W w g1 p1 g2 p2) (hp : p1.ok) (n : Int) : Calls Try.prog 31 #[.pointer (some ⟨g1, 0, none⟩), .int .i64 n] w fun e w' => ∃ v, e = .returned (.tuple #[v, .int .i64 (p1.read n).2]) ∧ Fresh w (p1.read n).1 v w' := by
  obtain ⟨o, hr⟩ := h.rep
  exact read_calls hr hp n
theorem pr_dur (h : Pr W w g1 p1 g2 p2) (hp : p1.ok) (n : Int) : Calls Try.prog 17 #[.pointer (some ⟨g1, 0, none⟩), .int .i64 n] w fun e w' => ∃ v, e = .returned (.tuple #[v, .int .i64 (p1.dur n).2]) ∧ Fresh w (p1.dur n).1 v w' := by
  obtain ⟨o, hr⟩ := h.rep
  exact dur_calls hr hp n
theorem pr_down (h : Pr W w g1 p1 g2 p2) : Calls Try.prog 18 #[.pointer (some ⟨g1, 0, none⟩)] w fun e w' => e = .returned (.bool p1.dn) ∧ w = w' := by
  obtain ⟨o, hr⟩ := h.rep
  exact down_calls hr
theorem pr_writes (h : Pr W w g1 p1 g2 p2) : Calls Try.prog 19 #[.pointer (some ⟨g1, 0, none⟩)] w fun e w' => e = .returned (.int .i64 p1.wr) ∧ w = w' := by
  obtain ⟨o, hr⟩ := h.rep
  exact writes_calls hr
set_option maxHeartbeats 4000000 in
theorem same_done (h : Pr W w g1 p1 g2 p2) (hp : p1.ok) (hq : p2.ok) (hC : Kd.C By W A m.data.length m.data) (hc : m.data.length ≤ c) (hl : m.data.length < 140737488355328) (hk : ¬ (m.kd = 5 ∨ m.kd = 6 ∨ m.kd = 10 ∨ m.kd = 11)) (base : Int) :
    Calls Try.prog 30 #[.pointer (some ⟨g1, 0, none⟩), .pointer (some ⟨g2, 0, none⟩), .agg (OV m A c), .int .i64 base] w fun e w' => e = .returned (.bool (decide ((m.done p1).2 = (m.done p2).2))) ∧ Pr W w' g1 (m.done p1).1 g2 (m.done p2).1 := by
  have H := Aside0.mk h
  have HP := Aside0.mk hp
  have HQ := Aside0.mk hq
  have HC := Aside0.mk hC
  have HCC := Aside0.mk hc
  have HL := Aside0.mk hl
  obtain ⟨d1, hd1⟩ : ∃ d, d = m.done p1 := ⟨_, rfl⟩
  obtain ⟨d2, hd2⟩ : ∃ d, d = m.done p2 := ⟨_, rfl⟩
  rw [← hd1, ← hd2]
  have HD1 := Aside0.mk hd1
  have HD2 := Aside0.mk hd2
  have hu45 := Try.underlying45
  obtain ⟨kd, ot, fl, a, b, data⟩ := m
  clear h hp hq hC hc hl hd1 hd2
  dsimp only at hk
  have e1 : (kd == (5 : Int)) = false := by simp; omega
  have e2 : (kd == (6 : Int)) = false := by simp; omega
  have e3 : (kd == (10 : Int)) = false := by simp; omega
  have e4 : (kd == (11 : Int)) = false := by simp; omega
  clear hk
  go_enter Try.func30, Try.ntmps30
  go_wp2_with fail
  have hcw : ∀ w1, Below W.heap.size W w1 → Kd.C By w1 A data.length data := fun w1 hb => Kd.C_below HC.out hb
  have HCW := Aside0.mk hcw
  clear hcw
  refine (pr_done (m := ⟨kd, ot, fl, a, b, data⟩) (H.out.box _) HP.out (HCW.out _ (H.out.keep (bx w _)).below) HCC.out HL.out).mono ?_
  rintro e w1 ⟨rfl, h1, hx⟩
  rw [← HD1.out] at h1 ⊢
  have hx := hx.trans (heap_alloc_new w _)
  obtain ⟨x0, x1, x2, x3, x4, x5⟩ := ov_cells (m := ⟨kd, ot, fl, a, b, data⟩) hx
  have hfz := blk_frozen hx
  have H1 := Aside0.mk h1
  clear h1 hx
  go_wp2_with fail
  refine (pr_done (m := ⟨kd, ot, fl, a, b, data⟩) H1.out.swap HQ.out (HCW.out _ H1.out.out.below) HCC.out HL.out).mono ?_
  rintro e w2 ⟨rfl, h2, hx⟩
  rw [← HD2.out] at h2 ⊢
  have H2 := Aside0.mk h2
  clear h2 hx x0 x1 x2 x3 x4 x5
  go_wp2_with fail
  go_ret
  exact ⟨by first | rfl | (congr 1), H2.out.swap.out⟩
end
end Go.Proofs.Yticokogggepfoaa.D
namespace Go.Proofs.Yticokogggepfoaa.D
open Go.RowKit Go.Proofs.YticokogggepfoaaW.PrintWords Go.Proofs.YticokogggepfoaaW.PrintLast Go.Proofs.YticokogggepfoaaW.PrintMore Go.Proofs.Yticokogggepfoaa.G
attribute [local go_sem] max2_int min2_int max_two min_two max_three min_three max_four min_four
set_option linter.unusedVariables false
set_option linter.unusedSimpArgs false
set_option maxRecDepth 100000
theorem read_len {p : PM} (h : p.ok) (n : Int) : (p.read n).1.length ≤ 4611686018427387904 := by
  have h0 := h.l0
  have h1 := h.l1
  unfold PM.read PM.all
  split <;> try split
  all_goals (try split)
  all_goals (first | (simp; done) | (simp only []; omega) | omega)
theorem dur_len {p : PM} (h : p.ok) (n : Int) : (p.dur n).1.length ≤ 4611686018427387904 := by
  have h0 := h.l0
  have h1 := h.l1
  have ha : (p.all n).length ≤ 16777216 := by unfold PM.all; split <;> assumption
  unfold PM.dur
  split
  · simp
  · simp only [List.length_take]; omega
section
variable {W w w' : World} {o1 o2 : Nat → Prop} {g1 g2 : Nat} {p1 p2 q1 q2 : PM} {m : OM} {A : Option Addr} {c : Nat}
theorem PrX.keep {x : Nat} (h : PrX W w x g1 p1 g2 p2) (hb : Below w.heap.size w w') : PrX W w' x g1 p1 g2 p2 := by
  obtain ⟨hx, o1, o2, h1, h2, hd, hn⟩ := h
  exact ⟨Nat.lt_of_lt_of_le hx hb.size, o1, o2, h1.keep hb, h2.keep hb, hd, hn⟩
set_option maxHeartbeats 4000000 in
theorem same_read (h : Pr W w g1 p1 g2 p2) (hp : p1.ok) (hq : p2.ok) (hk : m.kd = 5) (base : Int) :
    Calls Try.prog 30 #[.pointer (some ⟨g1, 0, none⟩), .pointer (some ⟨g2, 0, none⟩), .agg (OV m A c), .int .i64 base] w fun e w' => e = .returned (.bool (decide ((p1.read m.fl).2 = (p2.read m.fl).2) && decide ((p1.read m.fl).1 = (p2.read m.fl).1))) ∧ Pr W w' g1 p1 g2 p2 := by
  have H := Aside0.mk h
  have HP := Aside0.mk hp
  have HQ := Aside0.mk hq
  have hu45 := Try.underlying45
  obtain ⟨kd, ot, fl, a, b, data⟩ := m
  clear h hp hq
  dsimp only at hk ⊢
  subst hk
  obtain ⟨u1, hu1⟩ : ∃ u, u = p1.read fl := ⟨_, rfl⟩
  obtain ⟨u2, hu2⟩ : ∃ u, u = p2.read fl := ⟨_, rfl⟩
  rw [← hu1, ← hu2]
  have HU1 := Aside0.mk hu1
  have HU2 := Aside0.mk hu2
  have HN := Aside0.mk (show u1.1.length ≤ 4611686018427387904 from hu1 ▸ read_len HP.out fl)
  clear hu1 hu2
  by_cases he : u1.2 = u2.2
  all_goals
    first
    | (have hd : (u1.2 == u2.2) = true := by rw [he]; simp)
    | (have hd : (u1.2 == u2.2) = false := by simpa using he)
    go_enter Try.func30, Try.ntmps30
    go_wp2_with fail
    refine (pr_read (H.out.box _).out HP.out fl).mono ?_
    rintro e w1 ⟨v, rfl, hf⟩
    rw [← HU1.out] at hf ⊢
    obtain ⟨A1, c1, rfl, hb1⟩ := Kd.R_slice_len hf.1
    have hx := (hf.2.block _ (by simp)).trans (heap_alloc_new w (.cells (OV ⟨_, ot, fl, a, b, data⟩ A c) 45))
    obtain ⟨x0, x1, x2, x3, x4, x5⟩ := ov_cells hx
    have hfz := blk_frozen hx
    have H1 := Aside0.mk ((H.out.box _).keep hf.2)
    have HF1 := Aside0.mk hf
    have HB1 := Aside0.mk hb1
    clear hx hf hb1
    go_wp2_with fail
    refine (pr_read H1.out.swap.out HQ.out fl).mono ?_
    rintro e w2 ⟨v, rfl, hf⟩
    rw [← HU2.out] at hf ⊢
    obtain ⟨A2, c2, rfl, hb2⟩ := Kd.R_slice_len hf.1
    have H2 := Aside0.mk (H1.out.keep hf.2)
    have HF2 := Aside0.mk hf
    have HB2 := Aside0.mk hb2
    clear hf hb2 x0 x1 x2 x3 x4 x5 hfz
    go_wp2_with fail
  · refine (equal_calls (Kd.C_below HF1.out.reads HF2.out.2) HB1.out HF2.out.reads HB2.out HN.out).mono ?_
    rintro e w3 ⟨rfl, hb⟩
    have H3 := Aside0.mk (H2.out.keep hb)
    clear hb
    go_wp2_with fail
    go_ret
    exact ⟨by rw [decide_eq_true he, Bool.true_and]; rfl, H3.out.out⟩
  · go_ret
    exact ⟨by rw [decide_eq_false he, Bool.false_and]; rfl, H2.out.out⟩
set_option maxHeartbeats 4000000 in
theorem same_dur (h : Pr W w g1 p1 g2 p2) (hp : p1.ok) (hq : p2.ok) (hk : m.kd = 6) (base : Int) :
    Calls Try.prog 30 #[.pointer (some ⟨g1, 0, none⟩), .pointer (some ⟨g2, 0, none⟩), .agg (OV m A c), .int .i64 base] w fun e w' => e = .returned (.bool (decide ((p1.dur m.fl).2 = (p2.dur m.fl).2) && decide ((p1.dur m.fl).1 = (p2.dur m.fl).1))) ∧ Pr W w' g1 p1 g2 p2 := by
  have H := Aside0.mk h
  have HP := Aside0.mk hp
  have HQ := Aside0.mk hq
  have hu45 := Try.underlying45
  obtain ⟨kd, ot, fl, a, b, data⟩ := m
  clear h hp hq
  dsimp only at hk ⊢
  subst hk
  obtain ⟨u1, hu1⟩ : ∃ u, u = p1.dur fl := ⟨_, rfl⟩
  obtain ⟨u2, hu2⟩ : ∃ u, u = p2.dur fl := ⟨_, rfl⟩
  rw [← hu1, ← hu2]
  have HU1 := Aside0.mk hu1
  have HU2 := Aside0.mk hu2
  have HN := Aside0.mk (show u1.1.length ≤ 4611686018427387904 from hu1 ▸ dur_len HP.out fl)
  clear hu1 hu2
  by_cases he : u1.2 = u2.2
  all_goals
    first
    | (have hd : (u1.2 == u2.2) = true := by rw [he]; simp)
    | (have hd : (u1.2 == u2.2) = false := by simpa using he)
    go_enter Try.func30, Try.ntmps30
    go_wp2_with fail
    refine (pr_dur (H.out.box _).out HP.out fl).mono ?_
    rintro e w1 ⟨v, rfl, hf⟩
    rw [← HU1.out] at hf ⊢
    obtain ⟨A1, c1, rfl, hb1⟩ := Kd.R_slice_len hf.1
    have hx := (hf.2.block _ (by simp)).trans (heap_alloc_new w (.cells (OV ⟨_, ot, fl, a, b, data⟩ A c) 45))
    obtain ⟨x0, x1, x2, x3, x4, x5⟩ := ov_cells hx
    have hfz := blk_frozen hx
    have H1 := Aside0.mk ((H.out.box _).keep hf.2)
    have HF1 := Aside0.mk hf
    have HB1 := Aside0.mk hb1
    clear hx hf hb1
    go_wp2_with fail
    refine (pr_dur H1.out.swap.out HQ.out fl).mono ?_
    rintro e w2 ⟨v, rfl, hf⟩
    rw [← HU2.out] at hf ⊢
    obtain ⟨A2, c2, rfl, hb2⟩ := Kd.R_slice_len hf.1
    have H2 := Aside0.mk (H1.out.keep hf.2)
    have HF2 := Aside0.mk hf
    have HB2 := Aside0.mk hb2
    clear hf hb2 x0 x1 x2 x3 x4 x5 hfz
    go_wp2_with fail
  · refine (equal_calls (Kd.C_below HF1.out.reads HF2.out.2) HB1.out HF2.out.reads HB2.out HN.out).mono ?_
    rintro e w3 ⟨rfl, hb⟩
    have H3 := Aside0.mk (H2.out.keep hb)
    clear hb
    go_wp2_with fail
    go_ret
    exact ⟨by rw [decide_eq_true he, Bool.true_and]; rfl, H3.out.out⟩
  · go_ret
    exact ⟨by rw [decide_eq_false he, Bool.false_and]; rfl, H2.out.out⟩
set_option maxHeartbeats 4000000 in
theorem same_down (h : Pr W w g1 p1 g2 p2) (hk : m.kd = 10) (base : Int) :
    Calls Try.prog 30 #[.pointer (some ⟨g1, 0, none⟩), .pointer (some ⟨g2, 0, none⟩), .agg (OV m A c), .int .i64 base] w fun e w' => e = .returned (.bool (p1.dn == p2.dn)) ∧ Pr W w' g1 p1 g2 p2 := by
  have H := Aside0.mk h
  have hu45 := Try.underlying45
  obtain ⟨kd, ot, fl, a, b, data⟩ := m
  clear h
  dsimp only at hk ⊢
  subst hk
  go_enter Try.func30, Try.ntmps30
  go_wp2_with fail
  refine (pr_down (H.out.keep (bx w _))).mono ?_
  rintro e w1 ⟨rfl, rfl⟩
  go_wp2_with fail
  refine (pr_down (H.out.keep (bx w _)).swap).mono ?_
  rintro e w1 ⟨rfl, rfl⟩
  go_wp2_with fail
  go_ret
  exact ⟨rfl, H.out.keep (bx w _)⟩
set_option maxHeartbeats 4000000 in
theorem same_writes (h : Pr W w g1 p1 g2 p2) (hk : m.kd = 11) (base : Int) :
    Calls Try.prog 30 #[.pointer (some ⟨g1, 0, none⟩), .pointer (some ⟨g2, 0, none⟩), .agg (OV m A c), .int .i64 base] w fun e w' => e = .returned (.bool (wrap64 (p1.wr - base) == p2.wr)) ∧ Pr W w' g1 p1 g2 p2 := by
  have H := Aside0.mk h
  have hu45 := Try.underlying45
  obtain ⟨kd, ot, fl, a, b, data⟩ := m
  clear h
  dsimp only at hk ⊢
  subst hk
  go_enter Try.func30, Try.ntmps30
  go_wp2_with fail
  refine (pr_writes (H.out.keep (bx w _))).mono ?_
  rintro e w1 ⟨rfl, rfl⟩
  go_wp2_with fail
  refine (pr_writes (H.out.keep (bx w _)).swap).mono ?_
  rintro e w1 ⟨rfl, rfl⟩
  go_wp2_with fail
  go_ret
  exact ⟨rfl, H.out.keep (bx w _)⟩
end
end Go.Proofs.Yticokogggepfoaa.D
