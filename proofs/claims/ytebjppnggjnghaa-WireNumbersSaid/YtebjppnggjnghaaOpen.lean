/- What a reading of an argument tells of its cells: a value of a kind (whole numbers, bools, texts, slices, structs, arrays), and how much there may be of it. No condition. -/
import Derived.Test.YtebjppnggjnghaaWWords
import Derived.Test.YtebjppnggjnghaaWArr
import Derived.OpenShut
import Derived.ChangeArms
import Derived.SizedLaws
import Derived.Carry
import Derived.DataReads
namespace Go.Proofs.Ytebjppnggjnghaa.Opn
open Go.RowKit Go.Proofs.YtebjppnggjnghaaW.PrintWords
set_option linter.unusedVariables false

/-- Whatever reads at type t is a value of kind kd, of which ok holds. -/
def Opens (P : Program) (t : TypeId) {α : Type} (kd : Kd α) (ok : α → Prop) : Prop :=
  ∀ {H : Type} (enc : TypeId × Value → H) (W : World) (fuel : Nat) (cs : List Value) (d : DataW H) (ps : List MemPlace),
    DataW.trod enc P W 0 (fun _ => true) true fuel t cs = some (d, ps) → (∀ n ∈ d.weights P t, n ≤ reachBytes) → ∃ x, kd.K W x cs ∧ ok x

theorem opens_int {P : Program} {t : TypeId} {k : IntKind} (ht : P.underlying t = some (.int k)) : Opens P t (Kd.int k) (fun x => (Lit.int k x).wf = true) := by
  intro H enc W fuel cs d ps h _
  obtain ⟨n, rfl, _, hw⟩ := DataW.trod_int ht h
  exact ⟨n, rfl, hw⟩

theorem opens_bool {P : Program} {t : TypeId} (ht : P.underlying t = some .bool) : Opens P t Kd.bool (fun _ => True) := by
  intro H enc W fuel cs d ps h _
  cases fuel with
  | zero => simp [DataW.trod] at h
  | succ n =>
    unfold DataW.trod at h
    rw [ht] at h
    split at h <;> first | exact ⟨_, rfl, trivial⟩ | simp_all

theorem opens_string {P : Program} {t : TypeId} (ht : P.underlying t = some .string) : Opens P t Kd.string (fun s => s.size ≤ 140737488351232) := by
  intro H enc W fuel cs d ps h hz
  obtain ⟨s, rfl, hd, _⟩ := DataW.trod_string ht h
  injection hd with hd _
  subst hd
  refine ⟨s, rfl, ?_⟩
  have := hz s.data.toList.length (by simp [DataW.weights])
  rw [Array.length_toList] at this
  exact this

theorem weights_all {H : Type} {P : Program} {e : TypeId} {y1 : DataW H} {y2 : List MemPlace} {m : Nat} : ∀ (elems : List (DataW H × List MemPlace)) (i : Nat), elems[i]? = some (y1, y2) → m ∈ y1.weights P e → m ∈ DataW.weightsAll P e (elems.map (·.1))
  | [], i, hy, _ => by simp at hy
  | z :: zs, 0, hy, hm => by
    simp at hy
    subst hy
    simp only [List.map_cons, DataW.weightsAll, List.mem_append]
    exact .inl hm
  | z :: zs, i + 1, hy, hm => by
    simp only [List.map_cons, DataW.weightsAll, List.mem_append]
    exact .inr (weights_all zs i (by simpa using hy) hm)
theorem add_two (a : Addr) (i j : Nat) : (a.add i).add j = a.add (i + j) := by
  unfold Addr.add
  by_cases h : i = 0 <;> by_cases h' : j = 0 <;> simp_all [Nat.add_assoc]

/-- A slice: what may be read, element by element; as many bytes as the reach lets in. -/
theorem opens_slice {P : Program} {t e : TypeId} {α : Type} {kd : Kd α} {ok : α → Prop} (ht : P.underlying t = some (.slice e)) (he : Opens P e kd ok) (hs : P.cellsOf e = kd.sz) :
    Opens P t (Kd.slice e kd) (fun xs => (∀ x ∈ xs, ok x) ∧ xs.length * P.bytesOf e ≤ 140737488351232) := by
  intro H enc W fuel cs d ps h hz
  rcases DataW.trod_slice ht h with ⟨rfl, _⟩ | ⟨a, len, cap, elems, rest, n, _, rfl, hx, _, hlc, hcm, hel, hget, _⟩
  · exact ⟨[], ⟨none, 0, rfl, Nat.le_refl _, Kd.C_nil _ _⟩, ⟨fun x hx => by simp at hx, by simp⟩⟩
  · injection hx with hd _
    subst hd
    have hw : ∀ (i : Nat) (y : DataW H × List MemPlace), elems[i]? = some y → ∃ x c, c.length = kd.sz ∧ kd.K W x c ∧ ok x ∧ ∀ j u, c[j]? = some u → W.cell? ((a.add (i * P.cellsOf e)).add j) = some u := by
      intro i y hy
      have hi : i < len := by rw [← hel]; exact (List.getElem?_eq_some_iff.1 hy).1
      have h1 := hget i hi
      rw [hy] at h1
      obtain ⟨c, hc, ht2⟩ := Option.bind_eq_some_iff.1 h1
      obtain ⟨hcl, hcc⟩ := World.cells?_some hc
      obtain ⟨y1, y2⟩ := y
      obtain ⟨x, hk, ho⟩ := he enc W n c y1 y2 ht2 (by
        intro m hm
        refine hz m ?_
        simp only [DataW.weights, ht, List.mem_cons, List.mem_append]
        right; left
        exact weights_all elems i hy hm)
      exact ⟨x, c, kd.K_len hk, hk, ho, fun j u hu => by rw [hcc.2 j (by rw [← hcc.1]; exact (List.getElem?_eq_some_iff.1 hu).1)]; exact hu⟩
    have hall : ∃ xs : List α, xs.length = len ∧ ∀ i x, xs[i]? = some x → ∃ c, c.length = kd.sz ∧ kd.K W x c ∧ ok x ∧ ∀ j u, c[j]? = some u → W.cell? ((a.add (i * P.cellsOf e)).add j) = some u := by
      have : ∀ m, m ≤ len → ∃ xs : List α, xs.length = m ∧ ∀ i x, xs[i]? = some x → ∃ c, c.length = kd.sz ∧ kd.K W x c ∧ ok x ∧ ∀ j u, c[j]? = some u → W.cell? ((a.add (i * P.cellsOf e)).add j) = some u := by
        intro m
        induction m with
        | zero => intro _; exact ⟨[], rfl, fun i x hx => by simp at hx⟩
        | succ m ih =>
          intro hm
          obtain ⟨xs, hl, hx⟩ := ih (by omega)
          obtain ⟨y, hy⟩ : ∃ y, elems[m]? = some y := ⟨_, List.getElem?_eq_getElem (by omega)⟩
          obtain ⟨x, c, h1, h2, h3, h4⟩ := hw m y hy
          refine ⟨xs ++ [x], by simp [hl], fun i z hz => ?_⟩
          rcases Nat.lt_or_ge i xs.length with hi | hi
          · rw [List.getElem?_append_left hi] at hz
            exact hx i z hz
          · rw [List.getElem?_append_right hi] at hz
            have : i - xs.length = 0 := by
              rcases Nat.eq_zero_or_pos (i - xs.length) with h | h
              · exact h
              · rw [List.getElem?_eq_none (by simp; omega)] at hz; cases hz
            rw [this] at hz
            simp at hz
            subst hz
            have : i = m := by omega
            subst this
            exact ⟨c, h1, h2, h3, h4⟩
      exact this len (Nat.le_refl _)
    obtain ⟨xs, hl, hx⟩ := hall
    refine ⟨xs, ⟨some a, cap, by rw [hl], by omega, ?_⟩, ?_, ?_⟩
    · refine ⟨rfl, by unfold maxLen at hcm; omega, fun _ => ⟨a, rfl, fun j p hj => ?_⟩⟩
      obtain ⟨c, h1, h2, _, h4⟩ := hx j p hj
      refine ⟨c, h1, h2, fun i u hu => ?_⟩
      rw [← hs, ← add_two]
      exact h4 i u hu
    · intro x hm
      obtain ⟨i, hi, rfl⟩ := List.mem_iff_getElem.1 hm
      obtain ⟨_, _, _, ho, _⟩ := hx i _ (List.getElem?_eq_getElem hi)
      exact ho
    · have := hz (((elems.map (·.1)).length + (rest.map (·.1)).length) * P.bytesOf e) (by simp [DataW.weights, ht])
      rw [List.length_map, List.length_map, hel] at this
      rw [hl]
      exact Nat.le_trans (Nat.mul_le_mul_right _ (by omega)) this

/-- The fields from field i on, whose cells begin at 'off'. -/
def OpensF (P : Program) (fs : List Field) (off : Nat) {α : Type} (kd : Kd α) (ok : α → Prop) : Prop :=
  ∀ {H : Type} (enc : TypeId × Value → H) (W : World) (n : Nat) (cs : List Value) (xs : List (DataW H × List MemPlace)), xs.length = fs.length →
    (∀ (i : Nat) (f : Field), fs[i]? = some f → DataW.trod enc P W 0 (fun _ => true) true n f.type ((cs.drop f.offset).take (P.cellsOf f.type)) = xs[i]?) →
    (∀ m ∈ DataW.weightsEach P (fs.map (·.type)) (xs.map (·.1)), m ≤ reachBytes) → ∃ x, kd.K W x ((cs.drop off).take kd.sz) ∧ ok x

theorem opensF_one {P : Program} {f : Field} {α : Type} {kd : Kd α} {ok : α → Prop} (h : Opens P f.type kd ok) (hs : P.cellsOf f.type = kd.sz) : OpensF P [f] f.offset kd ok := by
  intro H enc W n cs xs hl hx hz
  have h0 := hx 0 f rfl
  obtain ⟨⟨d, ps⟩, rfl⟩ : ∃ y, xs = [y] := by
    match xs, hl with
    | [y], _ => exact ⟨y, rfl⟩
  rw [hs] at h0
  exact h enc W n _ d ps h0 (fun m hm => hz m (by simp [DataW.weightsEach]; exact hm))

theorem opensF_cons {P : Program} {f : Field} {fs : List Field} {off2 : Nat} {α β : Type} {kd : Kd α} {ok : α → Prop} {kd2 : Kd β} {ok2 : β → Prop} (h : Opens P f.type kd ok) (hs : P.cellsOf f.type = kd.sz)
    (h2 : OpensF P fs off2 kd2 ok2) (ho : off2 = f.offset + kd.sz) : OpensF P (f :: fs) f.offset (Kd.pair kd kd2) (fun x => ok x.1 ∧ ok2 x.2) := by
  intro H enc W n cs xs hl hx hz
  have h0 := hx 0 f rfl
  obtain ⟨⟨d, ps⟩, ys, rfl⟩ : ∃ y ys, xs = y :: ys := by
    match xs, hl with
    | y :: ys, _ => exact ⟨y, ys, rfl⟩
  rw [hs] at h0
  obtain ⟨x, hk, hok⟩ := h enc W n _ d ps h0 (fun m hm => hz m (by simp only [List.map_cons, DataW.weightsEach, List.mem_append]; exact .inl hm))
  obtain ⟨y, hk2, hok2⟩ := h2 enc W n cs ys (by simpa using hl) (fun i g hg => hx (i + 1) g hg) (fun m hm => hz m (by simp only [List.map_cons, DataW.weightsEach, List.mem_append]; exact .inr hm))
  refine ⟨(x, y), ⟨_, _, ?_, hk, hk2⟩, hok, hok2⟩
  show (cs.drop f.offset).take (kd.sz + kd2.sz) = _
  rw [ho, List.take_add, List.drop_drop]

theorem opens_struct {P : Program} {t : TypeId} {fs : Array Field} {α β : Type} {kd : Kd α} {ok : α → Prop} (ht : P.underlying t = some (.struct fs)) (h : OpensF P fs.toList 0 kd ok) (hs : P.cellsOf t = kd.sz)
    (f : β → α) (g : α → β) (hfg : ∀ x, f (g x) = x) : Opens P t (Kd.iso kd f) (fun x => ok (f x)) := by
  intro H enc W fuel cs d ps hh hz
  obtain ⟨xs, n, _, hx, hl, hxl, hget⟩ := DataW.trod_struct ht hh
  injection hx with hd _
  subst hd
  obtain ⟨x, hk, ho⟩ := h enc W n cs xs (by simpa using hxl) (fun i f hf => hget i f (by simpa using hf)) (fun m hm => hz m (by simp only [DataW.weights, ht]; exact hm))
  rw [List.drop_zero, List.take_of_length_le (by omega)] at hk
  exact ⟨g x, by show kd.K W (f (g x)) cs; rw [hfg]; exact hk, by show ok (f (g x)); rw [hfg]; exact ho⟩

theorem opens_mono {P : Program} {t : TypeId} {α : Type} {kd : Kd α} {ok ok' : α → Prop} (h : Opens P t kd ok) (hi : ∀ x, ok x → ok' x) : Opens P t kd ok' :=
  fun enc W fuel cs d ps hh hz => let ⟨x, hk, ho⟩ := h enc W fuel cs d ps hh hz; ⟨x, hk, hi x ho⟩

/-- What one argument's weights are, out of all arguments'. -/
theorem weight_of {H : Type} {P : Program} {ts : List TypeId} {ds : List (DataW H)} (h : (DataW.weightsEach P ts ds).all (· ≤ reachBytes) = true) {j : Nat} {t : TypeId} {d : DataW H} (ht : ts[j]? = some t) (hd : ds[j]? = some d) :
    ∀ n ∈ d.weights P t, n ≤ reachBytes := fun n hn => by
  have := List.all_eq_true.1 h n (DataW.weights_mem_each ht hd n hn)
  simpa using this
end Go.Proofs.Ytebjppnggjnghaa.Opn
