/- What a reading of an argument tells of its cells: a value of a kind (whole numbers, bools, texts, slices, structs, arrays), and how much there may be of it. No condition. -/
import Derived.Test.YtgfjmpnlkjocaaaDoorWWords
import Derived.Test.YtgfjmpnlkjocaaaDoorRows
import Derived.Test.YtgfjmpnlkjocaaaDoorWArr
import Derived.OpenShut
import Derived.ChangeArms
import Derived.SizedLaws
import Derived.Carry
import Derived.DataReads
namespace Go.Proofs.YtgfjmpnlkjocaaaDoor.Opn
open Go.RowKit Go.Proofs.YtgfjmpnlkjocaaaDoorW.PrintWords
set_option linter.unusedVariables false

theorem bulk_part {H : Type} {d : DataW H} {l : List (DataW H)} (h : d ∈ l) : Rows.uptoBulk d ≤ Rows.uptoBulkAll l := by
  induction l with
  | nil => cases h
  | cons x r ih =>
    simp only [Rows.uptoBulkAll]
    cases List.mem_cons.1 h with
    | inl e => subst e; omega
    | inr e => have := ih e; omega
theorem bulk_one {H : Type} (d : DataW H) : 1 ≤ Rows.uptoBulk d := by
  cases d with
  | lit l => cases l <;> simp [Rows.uptoBulk]
  | nil => simp [Rows.uptoBulk]
  | ptr d => simp [Rows.uptoBulk]
  | slice elems spare => simp [Rows.uptoBulk]
  | agg parts => simp [Rows.uptoBulk]
  | iface t d => simp [Rows.uptoBulk]
  | map entries => simp [Rows.uptoBulk]
  | held h => simp [Rows.uptoBulk]
theorem bulk_len {H : Type} (l : List (DataW H)) : l.length ≤ Rows.uptoBulkAll l := by
  induction l with
  | nil => simp [Rows.uptoBulkAll]
  | cons x r ih => have := bulk_one x; simp only [Rows.uptoBulkAll, List.length_cons]; omega
/-- The bound of the second form: of all readings together. -/
theorem bulk_small {H : Type} {l : List (DataW H)} (hk : Rows.uptoSmall H l = true) {j : Nat} {d : DataW H} (hd : l[j]? = some d) : Rows.uptoBulk d ≤ 1048576 := by
  have h : Rows.uptoBulkAll l ≤ 1048576 := of_decide_eq_true hk
  exact Nat.le_trans (bulk_part (List.mem_of_getElem? hd)) h

theorem str_small {H : Type} {s : ByteArray} {B : Nat} (h : Rows.uptoBulk (DataW.lit (H := H) (.string s.data.toList)) ≤ B) : s.size ≤ B := by
  have h2 : s.data.toList.length + 1 ≤ B := by simpa [Rows.uptoBulk] using h
  rw [Array.length_toList] at h2
  exact Nat.le_of_succ_le h2
/-- Whatever reads at type t is a value of kind kd, of which ok holds: so much at most as its bulk. -/
def Opens (P : Program) (t : TypeId) {α : Type} (kd : Kd α) (ok : Nat → α → Prop) : Prop :=
  ∀ {H : Type} (enc : TypeId × Value → H) (W : World) (fuel : Nat) (cs : List Value) (d : DataW H) (ps : List MemPlace),
    DataW.trod enc P W 0 (fun _ => true) true fuel t cs = some (d, ps) → (∀ n ∈ d.weights P t, n ≤ reachBytes) → ∀ B : Nat, Rows.uptoBulk d ≤ B → ∃ x, kd.K W x cs ∧ ok B x

theorem opens_int {P : Program} {t : TypeId} {k : IntKind} (ht : P.underlying t = some (.int k)) : Opens P t (Kd.int k) (fun _ x => (Lit.int k x).wf = true) := by
  intro H enc W fuel cs d ps h _ B _
  obtain ⟨n, rfl, _, hw⟩ := DataW.trod_int ht h
  exact ⟨n, rfl, hw⟩

theorem opens_bool {P : Program} {t : TypeId} (ht : P.underlying t = some .bool) : Opens P t Kd.bool (fun _ _ => True) := by
  intro H enc W fuel cs d ps h _ B _
  cases fuel with
  | zero => simp [DataW.trod] at h
  | succ n =>
    unfold DataW.trod at h
    rw [ht] at h
    split at h <;> first | exact ⟨_, rfl, trivial⟩ | simp_all

theorem opens_string {P : Program} {t : TypeId} (ht : P.underlying t = some .string) : Opens P t Kd.string (fun B s => s.size ≤ 140737488351232 ∧ s.size ≤ B) := by
  intro H enc W fuel cs d ps h hz B hB
  obtain ⟨s, rfl, hd, _⟩ := DataW.trod_string ht h
  injection hd with hd _
  subst hd
  have h2 : s.data.toList.length + 1 ≤ B := by simpa [Rows.uptoBulk] using hB
  have := hz s.data.toList.length (by simp [DataW.weights])
  rw [Array.length_toList] at this h2
  exact ⟨s, rfl, this, Nat.le_of_succ_le h2⟩

theorem weights_all {H : Type} {P : Program} {e : TypeId} {y1 : DataW H} {y2 : List MemPlace} {m : Nat} : ∀ (elems : List (DataW H × List MemPlace)) (i : Nat), elems[i]? = some (y1, y2) → m ∈ y1.weights P e → m ∈ DataW.weightsAll P e (elems.map (·.1))
  | [], i, hy, _ => by simp at hy
  | z :: zs, 0, hy, hm => by
    simp at hy
    subst hy
    simp only [List.map_cons, DataW.weightsAll, List.mem_append]
    exact .inl hm
  | z :: zs, i + 1, hy, hm => by
    simp only [List.map_cons, DataW.weightsAll, List.mem_append]
    exact .inr (weights_all zs i (by simpa using hy) hm)
theorem add_two (a : Addr) (i j : Nat) : (a.add i).add j = a.add (i + j) := by
  unfold Addr.add
  by_cases h : i = 0 <;> by_cases h' : j = 0 <;> simp_all [Nat.add_assoc]

/-- A slice: what may be read, element by element; as many bytes as the reach lets in. -/
theorem opens_slice {P : Program} {t e : TypeId} {α : Type} {kd : Kd α} {ok : Nat → α → Prop} (ht : P.underlying t = some (.slice e)) (he : Opens P e kd ok) (hs : P.cellsOf e = kd.sz) :
    Opens P t (Kd.slice e kd) (fun B xs => (∀ x ∈ xs, ok B x) ∧ xs.length * P.bytesOf e ≤ 140737488351232 ∧ xs.length ≤ B) := by
  intro H enc W fuel cs d ps h hz B hB
  rcases DataW.trod_slice ht h with ⟨rfl, _⟩ | ⟨a, len, cap, elems, rest, n, _, rfl, hx, _, hlc, hcm, hel, hget, _⟩
  · exact ⟨[], ⟨none, 0, rfl, Nat.le_refl _, Kd.C_nil _ _⟩, ⟨fun x hx => by simp at hx, by simp, by simp⟩⟩
  · injection hx with hd _
    subst hd
    have hB2 : Rows.uptoBulkAll (elems.map (·.1)) + Rows.uptoBulkAll (rest.map (·.1)) + 1 ≤ B := by simpa [Rows.uptoBulk] using hB
    have hw : ∀ (i : Nat) (y : DataW H × List MemPlace), elems[i]? = some y → ∃ x c, c.length = kd.sz ∧ kd.K W x c ∧ ok B x ∧ ∀ j u, c[j]? = some u → W.cell? ((a.add (i * P.cellsOf e)).add j) = some u := by
      intro i y hy
      have hi : i < len := by rw [← hel]; exact (List.getElem?_eq_some_iff.1 hy).1
      have h1 := hget i hi
      rw [hy] at h1
      obtain ⟨c, hc, ht2⟩ := Option.bind_eq_some_iff.1 h1
      obtain ⟨hcl, hcc⟩ := World.cells?_some hc
      obtain ⟨y1, y2⟩ := y
      obtain ⟨x, hk, ho⟩ := he enc W n c y1 y2 ht2 (by
        intro m hm
        refine hz m ?_
        simp only [DataW.weights, ht, List.mem_cons, List.mem_append]
        right; left
        exact weights_all elems i hy hm) B (by
        have := bulk_part (l := elems.map (·.1)) (List.mem_map.2 ⟨_, List.mem_of_getElem? hy, rfl⟩)
        dsimp only at this; omega)
      exact ⟨x, c, kd.K_len hk, hk, ho, fun j u hu => by rw [hcc.2 j (by rw [← hcc.1]; exact (List.getElem?_eq_some_iff.1 hu).1)]; exact hu⟩
    have hall : ∃ xs : List α, xs.length = len ∧ ∀ i x, xs[i]? = some x → ∃ c, c.length = kd.sz ∧ kd.K W x c ∧ ok B x ∧ ∀ j u, c[j]? = some u → W.cell? ((a.add (i * P.cellsOf e)).add j) = some u := by
      have : ∀ m, m ≤ len → ∃ xs : List α, xs.length = m ∧ ∀ i x, xs[i]? = some x → ∃ c, c.length = kd.sz ∧ kd.K W x c ∧ ok B x ∧ ∀ j u, c[j]? = some u → W.cell? ((a.add (i * P.cellsOf e)).add j) = some u := by
        intro m
        induction m with
        | zero => intro _; exact ⟨[], rfl, fun i x hx => by simp at hx⟩
        | succ m ih =>
          intro hm
          obtain ⟨xs, hl, hx⟩ := ih (by omega)
          obtain ⟨y, hy⟩ : ∃ y, elems[m]? = some y := ⟨_, List.getElem?_eq_getElem (by omega)⟩
          obtain ⟨x, c, h1, h2, h3, h4⟩ := hw m y hy
          refine ⟨xs ++ [x], by simp [hl], fun i z hz => ?_⟩
          rcases Nat.lt_or_ge i xs.length with hi | hi
          · rw [List.getElem?_append_left hi] at hz
            exact hx i z hz
          · rw [List.getElem?_append_right hi] at hz
            have : i - xs.length = 0 := by
              rcases Nat.eq_zero_or_pos (i - xs.length) with h | h
              · exact h
              · rw [List.getElem?_eq_none (by simp; omega)] at hz; cases hz
            rw [this] at hz
            simp at hz
            subst hz
            have : i = m := by omega
            subst this
            exact ⟨c, h1, h2, h3, h4⟩
      exact this len (Nat.le_refl _)
    obtain ⟨xs, hl, hx⟩ := hall
    refine ⟨xs, ⟨some a, cap, by rw [hl], by omega, ?_⟩, ?_, ?_⟩
    · refine ⟨rfl, by unfold maxLen at hcm; omega, fun _ => ⟨a, rfl, fun j p hj => ?_⟩⟩
      obtain ⟨c, h1, h2, _, h4⟩ := hx j p hj
      refine ⟨c, h1, h2, fun i u hu => ?_⟩
      rw [← hs, ← add_two]
      exact h4 i u hu
    · intro x hm
      obtain ⟨i, hi, rfl⟩ := List.mem_iff_getElem.1 hm
      obtain ⟨_, _, _, ho, _⟩ := hx i _ (List.getElem?_eq_getElem hi)
      exact ho
    · have := hz (((elems.map (·.1)).length + (rest.map (·.1)).length) * P.bytesOf e) (by simp [DataW.weights, ht])
      rw [List.length_map, List.length_map, hel] at this
      rw [hl]
      refine ⟨Nat.le_trans (Nat.mul_le_mul_right _ (by omega)) this, ?_⟩
      have h3 := bulk_len (elems.map (·.1))
      rw [List.length_map, hel] at h3
      omega

/-- The fields from field i on, whose cells begin at 'off'. -/
def OpensF (P : Program) (fs : List Field) (off : Nat) {α : Type} (kd : Kd α) (ok : Nat → α → Prop) : Prop :=
  ∀ {H : Type} (enc : TypeId × Value → H) (W : World) (n : Nat) (cs : List Value) (xs : List (DataW H × List MemPlace)), xs.length = fs.length →
    (∀ (i : Nat) (f : Field), fs[i]? = some f → DataW.trod enc P W 0 (fun _ => true) true n f.type ((cs.drop f.offset).take (P.cellsOf f.type)) = xs[i]?) →
    (∀ m ∈ DataW.weightsEach P (fs.map (·.type)) (xs.map (·.1)), m ≤ reachBytes) → ∀ B : Nat, Rows.uptoBulkAll (xs.map (·.1)) ≤ B → ∃ x, kd.K W x ((cs.drop off).take kd.sz) ∧ ok B x

theorem opensF_one {P : Program} {f : Field} {α : Type} {kd : Kd α} {ok : Nat → α → Prop} (h : Opens P f.type kd ok) (hs : P.cellsOf f.type = kd.sz) : OpensF P [f] f.offset kd ok := by
  intro H enc W n cs xs hl hx hz B hB
  have h0 := hx 0 f rfl
  obtain ⟨⟨d, ps⟩, rfl⟩ : ∃ y, xs = [y] := by
    match xs, hl with
    | [y], _ => exact ⟨y, rfl⟩
  rw [hs] at h0
  exact h enc W n _ d ps h0 (fun m hm => hz m (by simp [DataW.weightsEach]; exact hm)) B (by simp only [List.map_cons, List.map_nil, Rows.uptoBulkAll] at hB; omega)

theorem opensF_cons {P : Program} {f : Field} {fs : List Field} {off2 : Nat} {α β : Type} {kd : Kd α} {ok : Nat → α → Prop} {kd2 : Kd β} {ok2 : Nat → β → Prop} (h : Opens P f.type kd ok) (hs : P.cellsOf f.type = kd.sz)
    (h2 : OpensF P fs off2 kd2 ok2) (ho : off2 = f.offset + kd.sz) : OpensF P (f :: fs) f.offset (Kd.pair kd kd2) (fun B x => ok B x.1 ∧ ok2 B x.2) := by
  intro H enc W n cs xs hl hx hz B hB
  have h0 := hx 0 f rfl
  obtain ⟨⟨d, ps⟩, ys, rfl⟩ : ∃ y ys, xs = y :: ys := by
    match xs, hl with
    | y :: ys, _ => exact ⟨y, ys, rfl⟩
  rw [hs] at h0
  have hB2 : Rows.uptoBulk d + Rows.uptoBulkAll (ys.map (·.1)) ≤ B := by simpa [Rows.uptoBulkAll] using hB
  obtain ⟨x, hk, hok⟩ := h enc W n _ d ps h0 (fun m hm => hz m (by simp only [List.map_cons, DataW.weightsEach, List.mem_append]; exact .inl hm)) B (by omega)
  obtain ⟨y, hk2, hok2⟩ := h2 enc W n cs ys (by simpa using hl) (fun i g hg => hx (i + 1) g hg) (fun m hm => hz m (by simp only [List.map_cons, DataW.weightsEach, List.mem_append]; exact .inr hm)) B (by omega)
  refine ⟨(x, y), ⟨_, _, ?_, hk, hk2⟩, hok, hok2⟩
  show (cs.drop f.offset).take (kd.sz + kd2.sz) = _
  rw [ho, List.take_add, List.drop_drop]

theorem opens_struct {P : Program} {t : TypeId} {fs : Array Field} {α β : Type} {kd : Kd α} {ok : Nat → α → Prop} (ht : P.underlying t = some (.struct fs)) (h : OpensF P fs.toList 0 kd ok) (hs : P.cellsOf t = kd.sz)
    (f : β → α) (g : α → β) (hfg : ∀ x, f (g x) = x) : Opens P t (Kd.iso kd f) (fun B x => ok B (f x)) := by
  intro H enc W fuel cs d ps hh hz B hB
  obtain ⟨xs, n, _, hx, hl, hxl, hget⟩ := DataW.trod_struct ht hh
  injection hx with hd _
  subst hd
  obtain ⟨x, hk, ho⟩ := h enc W n cs xs (by simpa using hxl) (fun i f hf => hget i f (by simpa using hf)) (fun m hm => hz m (by simp only [DataW.weights, ht]; exact hm)) B (by simp only [Rows.uptoBulk] at hB; omega)
  rw [List.drop_zero, List.take_of_length_le (by omega)] at hk
  exact ⟨g x, by show kd.K W (f (g x)) cs; rw [hfg]; exact hk, by show ok B (f (g x)); rw [hfg]; exact ho⟩

theorem opens_mono {P : Program} {t : TypeId} {α : Type} {kd : Kd α} {ok ok' : Nat → α → Prop} (h : Opens P t kd ok) (hi : ∀ B x, ok B x → ok' B x) : Opens P t kd ok' :=
  fun enc W fuel cs d ps hh hz B hB => let ⟨x, hk, ho⟩ := h enc W fuel cs d ps hh hz B hB; ⟨x, hk, hi B x ho⟩

theorem weights_each {H : Type} {P : Program} {e : TypeId} : ∀ (n : Nat) (ds : List (DataW H)) (fs : List Field), ds.length = n → fs.length = n → (∀ f ∈ fs, f.type = e) → DataW.weightsEach P (fs.map (·.type)) ds = DataW.weightsAll P e ds
  | 0, ds, fs, h1, h2, _ => by
    cases ds with
    | nil => cases fs with
      | nil => rfl
      | cons _ _ => simp at h2
    | cons _ _ => simp at h1
  | n + 1, d :: ds, f :: fs, h1, h2, h3 => by
    simp only [List.map_cons, DataW.weightsEach, DataW.weightsAll, h3 f (by simp)]
    rw [weights_each n ds fs (by simpa using h1) (by simpa using h2) (fun g hg => h3 g (by simp [hg]))]
  | n + 1, [], _, h1, _, _ => by simp at h1
  | n + 1, _ :: _, [], _, h2, _ => by simp at h2
/-- An array, as a struct of so many fields of one type. -/
theorem opens_array0 {P : Program} {t e : TypeId} {m : Nat} {fs : List Field} {α β : Type} {kd : Kd α} {ok : Nat → α → Prop} (ht : P.underlying t = some (.array m e)) (hf : fs.length = m) (hfe : ∀ f ∈ fs, f.type = e)
    (hfo : ∀ (i : Nat) (f : Field), fs[i]? = some f → f.offset = i * P.cellsOf e) (h : OpensF P fs 0 kd ok) (hs : P.cellsOf t = kd.sz)
    (f : β → α) (g : α → β) (hfg : ∀ x, f (g x) = x) : Opens P t (Kd.iso kd f) (fun B x => ok B (f x)) := by
  intro H enc W fuel cs d ps hh hz B hB
  obtain ⟨xs, n, _, hx, hl, hxl, hget⟩ := DataW.trod_array ht hh
  injection hx with hd _
  subst hd
  obtain ⟨x, hk, ho⟩ := h enc W n cs xs (by omega) (fun i f hi => by
      have hlt : i < fs.length := (List.getElem?_eq_some_iff.1 hi).1
      rw [hfo i f hi, hfe f (List.mem_of_getElem? hi)]
      exact hget i (by omega))
    (fun k hk => hz k (by
      simp only [DataW.weights, ht]
      rw [← weights_each m _ fs (by rw [List.length_map]; exact hxl) hf hfe]
      exact hk)) B (by simp only [Rows.uptoBulk] at hB; omega)
  rw [List.drop_zero, List.take_of_length_le (by omega)] at hk
  exact ⟨g x, by show kd.K W (f (g x)) cs; rw [hfg]; exact hk, by show ok B (f (g x)); rw [hfg]; exact ho⟩

def arrF (e c i : Nat) : Field := { name := "", type := e, offset := i * c, embedded := false, tag := "", pkgPath := "", byteOffset := 0 }
theorem opens_array {P : Program} {t e : TypeId} {m : Nat} {fs : List Field} {α β : Type} {kd : Kd α} {ok : Nat → α → Prop} (ht : P.underlying t = some (.array m e)) (hfs : (List.range m).map (arrF e (P.cellsOf e)) = fs) (h : OpensF P fs 0 kd ok) (hs : P.cellsOf t = kd.sz)
    (f : β → α) (g : α → β) (hfg : ∀ x, f (g x) = x) : Opens P t (Kd.iso kd f) (fun B x => ok B (f x)) := by
  subst hfs
  refine opens_array0 ht (by simp) (fun x hx => ?_) (fun i x hx => ?_) h hs f g hfg
  · obtain ⟨i, _, rfl⟩ := List.mem_map.1 hx; rfl
  · rw [List.getElem?_map, Option.map_eq_some_iff] at hx
    obtain ⟨j, hj, rfl⟩ := hx
    have : j = i := by
      rw [List.getElem?_eq_some_iff] at hj
      obtain ⟨_, hj⟩ := hj
      rw [List.getElem_range] at hj
      exact hj.symm
    subst this; rfl

/-- A type of whole numbers and arrays of such: what it reads as tells its cells. -/
def flatB (P : Program) : Nat → TypeId → Bool
  | 0, _ => false
  | f + 1, t => match P.underlying t with
    | some (.int _) => true
    | some (.array n e) => flatB P f e && decide (P.cellsOf t = n * P.cellsOf e)
    | _ => false
theorem flat_inj {P : Program} : ∀ (f : Nat) (t : TypeId), flatB P f t = true → ∀ {H : Type} (enc : TypeId × Value → H) (w w2 : World) (b b2 : Nat) (sp sp2 : Nat → Bool) (hd hd2 : Bool) (fu fu2 : Nat) (cs cs2 : List Value) (d : DataW H) (p p2 : List MemPlace),
    DataW.trod enc P w b sp hd fu t cs = some (d, p) → DataW.trod enc P w2 b2 sp2 hd2 fu2 t cs2 = some (d, p2) → cs = cs2 := by
  intro f
  induction f with
  | zero => intro t h; simp [flatB] at h
  | succ f ih =>
    intro t h H enc w w2 b b2 sp sp2 hd hd2 fu fu2 cs cs2 d p p2 h1 h2
    unfold flatB at h
    split at h
    · rename_i k hk
      obtain ⟨n1, rfl, e1, _⟩ := DataW.trod_int hk h1
      obtain ⟨n2, rfl, e2, _⟩ := DataW.trod_int hk h2
      injection e1 with e1 _
      injection e2 with e2 _
      rw [e1] at e2
      injection e2 with e2
      injection e2 with _ e2
      rw [e2]
    · rename_i n e hk
      rw [Bool.and_eq_true] at h
      have hc := of_decide_eq_true h.2
      obtain ⟨xs1, m1, _, e1, l1, y1, g1⟩ := DataW.trod_array hk h1
      obtain ⟨xs2, m2, _, e2, l2, y2, g2⟩ := DataW.trod_array hk h2
      injection e1 with e1 _
      injection e2 with e2 _
      rw [e1] at e2
      injection e2 with e2
      apply List.ext_getElem (by omega)
      intro j hj1 hj2
      have hpos : 0 < P.cellsOf e := by
        rcases Nat.eq_zero_or_pos (P.cellsOf e) with z | z
        · rw [z] at hc; omega
        · exact z
      have hi : j / P.cellsOf e < n := (Nat.div_lt_iff_lt_mul hpos).2 (by omega)
      have a1 := g1 _ hi
      have a2 := g2 _ hi
      rw [List.getElem?_eq_getElem (by omega)] at a1 a2
      have hx : (xs1[j / P.cellsOf e]'(by omega)).1 = (xs2[j / P.cellsOf e]'(by omega)).1 := by
        have := congrArg (fun l => l[j / P.cellsOf e]?) e2
        simp only [List.getElem?_map] at this
        rw [List.getElem?_eq_getElem (by omega), List.getElem?_eq_getElem (by omega)] at this
        simpa using this
      have hch := ih e h.1 enc w w2 b b2 sp sp2 hd hd2 m1 m2 _ _ (xs1[j / P.cellsOf e]'(by omega)).1 (xs1[j / P.cellsOf e]'(by omega)).2 (xs2[j / P.cellsOf e]'(by omega)).2 a1 (by rw [hx]; exact a2)
      have hm : j % P.cellsOf e < P.cellsOf e := Nat.mod_lt _ hpos
      have hdm : j / P.cellsOf e * P.cellsOf e + j % P.cellsOf e = j := by rw [Nat.mul_comm]; exact Nat.div_add_mod _ _
      have q := congrArg (fun l => l[j % P.cellsOf e]?) hch
      simp only [List.getElem?_take, hm, if_true, List.getElem?_drop, hdm] at q
      rw [List.getElem?_eq_getElem hj1, List.getElem?_eq_getElem hj2] at q
      exact Option.some.inj q
    · simp at h

/-- What one argument's weights are, out of all arguments'. -/
theorem weight_of {H : Type} {P : Program} {ts : List TypeId} {ds : List (DataW H)} (h : (DataW.weightsEach P ts ds).all (· ≤ reachBytes) = true) {j : Nat} {t : TypeId} {d : DataW H} (ht : ts[j]? = some t) (hd : ds[j]? = some d) :
    ∀ n ∈ d.weights P t, n ≤ reachBytes := fun n hn => by
  have := List.all_eq_true.1 h n (DataW.weights_mem_each ht hd n hn)
  simpa using this
end Go.Proofs.YtgfjmpnlkjocaaaDoor.Opn
