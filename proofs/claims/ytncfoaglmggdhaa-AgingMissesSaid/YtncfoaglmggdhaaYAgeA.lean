/- What package aging's functions answer of a plan: by the rows' amounts, one behind the other. No condition but that the plan's numbers are numbers of 64 bits and that it has at most 400 rows. -/
import Derived.Test.YtncfoaglmggdhaaYx2
import Derived.Test.YtncfoaglmggdhaaYx5
import Derived.Test.YtncfoaglmggdhaaYx3
import Derived.Test.YtncfoaglmggdhaaYx9
import Derived.Test.YtncfoaglmggdhaaYx9
import Derived.Test.YtncfoaglmggdhaaYx2
import Derived.Test.YtncfoaglmggdhaaYSum
import Derived.Test.YtncfoaglmggdhaaYOpen
namespace Go.Proofs.Ytncfoaglmggdhaa.Y
open Go.RowKit Go.Proofs.YtncfoaglmggdhaaW.PrintWords Go.Proofs.YtncfoaglmggdhaaW.PrintLast
set_option linter.unusedVariables false

abbrev Row := S31
abbrev rr := rd_T31
def amt (r : Row) : Int := r.f1 + r.f2
def pre (l : List Row) (i : Nat) : Int := ((l.take i).map amt).sum
theorem wf64 {x : Int} (h : (Lit.int .i64 x).wf = true) : -9223372036854775808 ≤ x ∧ x ≤ 9223372036854775807 := by
 simp [Lit.wf,IntKind.min,IntKind.max,IntKind.bits,IntKind.signed] at h
 omega
theorem rr_at (l : List Row) (i : Nat) (h : i < l.length) : rr l (i : Int) = l[i] := by unfold rr rd_T31;simp [h]
theorem pre_zero (l : List Row) : pre l 0 = 0 := by simp [pre]
theorem pre_succ (l : List Row) (i : Nat) (h : i < l.length) : pre l (i + 1) = pre l i + amt (rr l (i : Int)) := by
 unfold pre
 rw [List.take_succ_eq_append_getElem h,List.map_append,List.sum_append_int,rr_at l i h];simp
/-- A plan that is sound: its due days rise, no part is below 0, and all of it fits. -/
structure Snd (l : List Row) : Prop where
 due : ∀ i,i < l.length → 1 ≤ (rr l (i : Int)).f0 ∧ (rr l (i : Int)).f0 ≤ 3652059
 rise : ∀ i,i + 1 < l.length → (rr l (i : Int)).f0 < (rr l ((i + 1 : Nat) : Int)).f0
 pos : ∀ i,i < l.length → 0 ≤ (rr l (i : Int)).f1 ∧ 0 ≤ (rr l (i : Int)).f2
 fits : pre l l.length ≤ 9223372036854775807
theorem Snd.amt0 {l : List Row} (h : Snd l) (i : Nat) (hi : i < l.length) : 0 ≤ amt (rr l (i : Int)) := by have := h.pos i hi;unfold amt;omega
theorem Snd.mono {l : List Row} (h : Snd l) (i : Nat) : ∀ d,i + d ≤ l.length → pre l i ≤ pre l (i + d) := by
 intro d
 induction d with
 | zero => intro _;exact Int.le_refl _
 | succ d ih =>
  intro hd
  have h1 := ih (by omega)
  have h2 := h.amt0 (i + d) (by omega)
  have h3 := pre_succ l (i + d) (by omega)
  rw [show i + (d + 1) = i + d + 1 from rfl,h3];omega
theorem Snd.mono' {l : List Row} (h : Snd l) {i j : Nat} (hij : i ≤ j) (hj : j ≤ l.length) : pre l i ≤ pre l j := by
 have := h.mono i (j - i) (by omega)
 rwa [show i + (j - i) = j from by omega] at this
theorem Snd.pre0 {l : List Row} (h : Snd l) {i : Nat} (hi : i ≤ l.length) : 0 ≤ pre l i := by have := h.mono' (Nat.zero_le i) hi;rwa [pre_zero] at this
theorem Snd.preM {l : List Row} (h : Snd l) {i : Nat} (hi : i ≤ l.length) : pre l i ≤ 9223372036854775807 := Int.le_trans (h.mono' hi (Nat.le_refl _)) h.fits
theorem Snd.amtM {l : List Row} (h : Snd l) (i : Nat) (hi : i < l.length) : amt (rr l (i : Int)) ≤ 9223372036854775807 := by
 have h1 := h.preM (i:=i + 1) (by omega)
 have h2 := h.pre0 (i:=i) (by omega)
 rw [pre_succ l i hi] at h1;omega
theorem Snd.rises {l : List Row} (h : Snd l) (i : Nat) : ∀ d,i + d + 1 < l.length + 0 → (rr l (i : Int)).f0 < (rr l ((i + d + 1 : Nat) : Int)).f0 := by
 intro d
 induction d with
 | zero => intro hd;exact h.rise i (by omega)
 | succ d ih => intro hd;exact Int.lt_trans (ih (by omega)) (h.rise (i + d + 1) (by omega))
theorem Snd.due_mono {l : List Row} (h : Snd l) {i j : Nat} (hij : i < j) (hj : j < l.length) : (rr l (i : Int)).f0 < (rr l (j : Int)).f0 := by
 have := h.rises i (j - i - 1) (by omega)
 rwa [show i + (j - i - 1) + 1 = j from by omega] at this

/-! the reference's Sound -/
theorem amounts_loop (l : List Row) (hl : l.length ≤ 400) (d : Nat) : ∀ (k i : Nat) (acc : List Int),i + d = l.length → d < k → acc = (l.take i).flatMap (fun r => [r.f1,r.f2]) → acc.length = 2 * i →
  arrearsref10_amounts.l0 k l acc (i : Int) = some (l.flatMap (fun r => [r.f1,r.f2])) := by
 induction d with
 | zero =>
  intro k i acc hi hk ha _
  obtain ⟨k,rfl⟩ : ∃ m,k = m + 1 := ⟨k - 1,by omega⟩
  simp only [arrearsref10_amounts.l0]
  rw [if_neg (by omega),ha,List.take_of_length_le (by omega)]
 | succ d ih =>
  intro k i acc hi hk ha hal
  obtain ⟨k,rfl⟩ : ∃ m,k = m + 1 := ⟨k - 1,by omega⟩
  simp only [arrearsref10_amounts.l0]
  rw [if_pos (by omega),if_pos (by omega)]
  simp only [Option.bind_some]
  rw [if_pos (by simp;omega),pl_w64 (x:=(i : Int) + 1) (by omega) (by omega)]
  have e : ((i : Int) + 1) = ((i + 1 : Nat) : Int) := by omega
  rw [e]
  refine ih k (i + 1) _ (by omega) (by omega) ?_ (by simp;omega)
  rw [List.take_succ_eq_append_getElem (by omega),List.flatMap_append, ← ha]
  show _ = _
  rw [show rd_T31 l (i : Int) = l[i] from rr_at l i (by omega)]
  simp
theorem amounts_sum (l : List Row) : (l.flatMap (fun r => [r.f1,r.f2])).sum = pre l l.length := by
 unfold pre
 rw [List.take_length]
 induction l with
 | nil => rfl
 | cons a l ih => rw [List.flatMap_cons,List.sum_append_int,ih,List.map_cons,List.sum_cons];unfold amt;simp
theorem flat_len (l : List Row) : (l.flatMap (fun r => [r.f1,r.f2])).length = 2 * l.length := by
 induction l with
 | nil => rfl
 | cons a l ih => rw [List.flatMap_cons,List.length_append,ih];simp;omega
def rowsOk (l : List Row) : Prop := ∀ r ∈ l,WF31 0 r
theorem flat_wf {l : List Row} (h : rowsOk l) : ∀ x ∈ l.flatMap (fun r => [r.f1,r.f2]), -9223372036854775808 ≤ x ∧ x ≤ 9223372036854775807 := by
 intro x hx
 rw [List.mem_flatMap] at hx
 obtain ⟨a,ha,hx⟩ := hx
 have hw := h a ha
 unfold WF31 at hw
 simp at hx
 rcases hx with rfl | rfl
 ·
  exact wf64 hw.2.1
 ·
  exact wf64 hw.2.2
/-- The rows 0 to i - 1 are as a sound plan's. -/
structure SndTo (l : List Row) (i : Nat) : Prop where
 due : ∀ j,j < i → 1 ≤ (rr l (j : Int)).f0 ∧ (rr l (j : Int)).f0 ≤ 3652059
 rise : ∀ j,j + 1 < i → (rr l (j : Int)).f0 < (rr l ((j + 1 : Nat) : Int)).f0
 pos : ∀ j,j < i → 0 ≤ (rr l (j : Int)).f1 ∧ 0 ≤ (rr l (j : Int)).f2
theorem Sound_loop (l : List Row) (hw : rowsOk l) (hl : l.length ≤ 400) (d : Nat) : ∀ (k i : Nat),i + d = l.length → 2 * d + 900 < k → SndTo l i →
  ∃ b,arrearsref10_Sound.l0 k l (i : Int) = some b ∧ (b = true ↔ Snd l) := by
 induction d with
 | zero =>
  intro k i hi hk hs
  obtain ⟨k,rfl⟩ : ∃ m,k = m + 1 := ⟨k - 1,by omega⟩
  have e : i = l.length := by omega
  subst e
  refine ⟨(pl_fits (pre l l.length)).2,?_,?_⟩
  ·
   simp only [arrearsref10_Sound.l0]
   rw [if_neg (by omega)]
   unfold arrearsref10_amounts.f
   rw [show arrearsref10_amounts.l0 k l [] 0 = _ from amounts_loop l hl l.length k 0 [] (by omega) (by omega) (by simp) (by simp)]
   simp only [Option.bind_some]
   rw [pl_Sum _ (flat_wf hw) (by rw [flat_len];omega) k (by rw [flat_len];omega),amounts_sum]
   rfl
  ·
   have hnn : ∀ i,i ≤ l.length → 0 ≤ pre l i := by
    intro i
    induction i with
    | zero => intro _;rw [pre_zero];exact Int.le_refl _
    | succ i ih =>
     intro hi
     have := ih (by omega)
     have h2 := hs.pos i (by omega)
     rw [pre_succ l i (by omega)];unfold amt;omega
   have := hnn l.length (Nat.le_refl _)
   unfold pl_fits
   constructor
   ·
    intro h
    split at h
    ·
     rename_i g;exact ⟨hs.due,hs.rise,hs.pos,g.2⟩
    ·
     cases h
   ·
    intro h
    rw [if_pos ⟨by omega,h.fits⟩]
 | succ d ih =>
  intro k i hi hk hs
  obtain ⟨k,rfl⟩ : ∃ m,k = m + 1 := ⟨k - 1,by omega⟩
  have step : ∀ b : Bool,(b = true ↔ ¬ (1 ≤ (rr l (i : Int)).f0 ∧ (rr l (i : Int)).f0 ≤ 3652059 ∧ 0 ≤ (rr l (i : Int)).f1 ∧ 0 ≤ (rr l (i : Int)).f2)) → ∃ c,arrearsref10_Sound.j1 k l (i : Int) b = some c ∧ (c = true ↔ Snd l) := by
   intro b hb
   obtain ⟨k,rfl⟩ : ∃ m,k = m + 1 := ⟨k - 1,by omega⟩
   simp only [arrearsref10_Sound.j1]
   by_cases c : b = true
   ·
    rw [if_pos c]
    refine ⟨false,rfl,?_⟩
    have hn := hb.1 c
    constructor
    ·
     intro h;cases h
    ·
     intro h
     exact absurd ⟨(h.due i (by omega)).1,(h.due i (by omega)).2,(h.pos i (by omega)).1,(h.pos i (by omega)).2⟩ hn
   ·
    rw [if_neg c]
    have hp : 1 ≤ (rr l (i : Int)).f0 ∧ (rr l (i : Int)).f0 ≤ 3652059 ∧ 0 ≤ (rr l (i : Int)).f1 ∧ 0 ≤ (rr l (i : Int)).f2 := Decidable.byContradiction fun hn => c (hb.2 hn)
    have e : ((i : Int) + 1) = ((i + 1 : Nat) : Int) := by omega
    by_cases c0 : (i : Int) > 0
    ·
     rw [if_pos c0,if_pos (by omega),if_pos (by omega),pl_w64 (x:=(i : Int) - 1) (by omega) (by omega),if_pos (by omega),if_pos (by omega)]
     have e1 : ((i : Int) - 1) = ((i - 1 : Nat) : Int) := by omega
     rw [e1]
     by_cases c1 : (rr l (i : Int)).f0 ≤ (rr l ((i - 1 : Nat) : Int)).f0
     ·
      rw [if_pos c1]
      refine ⟨false,rfl,?_⟩
      constructor
      ·
       intro h;cases h
      ·
       intro h
       have := h.rise (i - 1) (by omega)
       rw [show i - 1 + 1 = i from by omega] at this
       omega
     ·
      rw [if_neg c1,pl_w64 (x:=(i : Int) + 1) (by omega) (by omega),e]
      refine ih k (i + 1) (by omega) (by omega) ⟨?_,?_,?_⟩
      ·
       intro j hj
       rcases Nat.lt_or_ge j i with h | h
       ·
        exact hs.due j h
       ·
        have : j = i := by omega
        subst this;exact ⟨hp.1,hp.2.1⟩
      ·
       intro j hj
       rcases Nat.lt_or_ge (j + 1) i with h | h
       ·
        exact hs.rise j h
       ·
        have : j = i - 1 := by omega
        subst this
        rw [show i - 1 + 1 = i from by omega]
        omega
      ·
       intro j hj
       rcases Nat.lt_or_ge j i with h | h
       ·
        exact hs.pos j h
       ·
        have : j = i := by omega
        subst this;exact hp.2.2
    ·
     rw [if_neg c0,pl_w64 (x:=(i : Int) + 1) (by omega) (by omega),e]
     have : i = 0 := by omega
     subst this
     refine ih k 1 (by omega) (by omega) ⟨?_,?_,?_⟩
     ·
      intro j hj
      have : j = 0 := by omega
      subst this;exact ⟨hp.1,hp.2.1⟩
     ·
      intro j hj;omega
     ·
      intro j hj
      have : j = 0 := by omega
      subst this;exact hp.2.2
  simp only [arrearsref10_Sound.l0]
  rw [if_pos (by omega),if_pos (by omega)]
  show ∃ b,(if (rr l (i : Int)).f0 < 1 then _ else _) = some b ∧ _
  by_cases c1 : (rr l (i : Int)).f0 < 1
  ·
   rw [if_pos c1];exact step true ⟨fun _ h => by omega,fun _ => rfl⟩
  ·
   rw [if_neg c1]
   by_cases c2 : (rr l (i : Int)).f0 > 3652059
   ·
    rw [if_pos c2];exact step true ⟨fun _ h => by omega,fun _ => rfl⟩
   ·
    rw [if_neg c2]
    by_cases c3 : (rr l (i : Int)).f1 < 0
    ·
     rw [if_pos c3];exact step true ⟨fun _ h => by omega,fun _ => rfl⟩
    ·
     rw [if_neg c3]
     refine step _ ⟨fun h => ?_,fun h => ?_⟩
     ·
      rw [decide_eq_true_eq] at h;intro h';exact absurd h'.2.2.2 (by show ¬ 0 ≤ (rd_T31 l (i : Int)).f2;omega)
     ·
      rw [decide_eq_true_eq]
      show (rr l (i : Int)).f2 < 0
      omega
theorem ref_Sound (l : List Row) (hw : rowsOk l) (hl : l.length ≤ 400) (k : Nat) (hk : 2000 < k) : ∃ b,arrearsref10_Sound.f k l = some b ∧ (b = true ↔ Snd l) := by
 unfold arrearsref10_Sound.f
 exact Sound_loop l hw hl l.length k 0 (by omega) (by omega) ⟨fun j hj => by omega,fun j hj => by omega,fun j hj => by omega⟩

/-! the program's sound -/
theorem sndGo_iff : ∀ (l : List Row) (last : Int),aging_sound.sndGo last l = true ↔ ((∀ i,i < l.length → (rr l (i : Int)).f0 ≤ 3652059 ∧ 0 ≤ (rr l (i : Int)).f1 ∧ 0 ≤ (rr l (i : Int)).f2) ∧ (0 < l.length → last < (rr l ((0 : Nat) : Int)).f0) ∧ (∀ i,i + 1 < l.length → (rr l (i : Int)).f0 < (rr l ((i + 1 : Nat) : Int)).f0))
 | [],last => by simp [aging_sound.sndGo]
 | a :: l,last => by
  have h0 : rr (a :: l) ((0 : Nat) : Int) = a := by rw [rr_at _ _ (by simp)];rfl
  have hs : ∀ i,rr (a :: l) ((i + 1 : Nat) : Int) = rr l (i : Int) := fun i => by unfold rr;exact aging_sound.rd_T31_cons a l i
  rw [aging_sound.sndGo,Bool.and_eq_true,decide_eq_true_eq,sndGo_iff l a.f0]
  constructor
  ·
   rintro ⟨⟨g1,g2,g3,g4⟩,f1,f2,f3⟩
   refine ⟨?_,fun _ => by rw [h0];exact g1,?_⟩
   ·
    intro i hi
    cases i with
    | zero => rw [h0];exact ⟨g2,g3,g4⟩
    | succ i => rw [hs];exact f1 i (by simpa using hi)
   ·
    intro i hi
    cases i with
    | zero => rw [h0,hs];exact f2 (by simpa using hi)
    | succ i => rw [hs,hs];exact f3 i (by simpa using hi)
  ·
   rintro ⟨f1,f2,f3⟩
   have g := f1 0 (by simp)
   rw [h0] at g
   have g2 := f2 (by simp)
   rw [h0] at g2
   refine ⟨⟨g2,g⟩,?_,?_,?_⟩
   ·
    intro i hi;have := f1 (i + 1) (by simpa using hi);rwa [hs] at this
   ·
    intro hp;have := f3 0 (by simpa using hp);rwa [h0,hs] at this
   ·
    intro i hi;have := f3 (i + 1) (by simpa using hi);rwa [hs,hs] at this
theorem prog_sound (l : List Row) (hw : rowsOk l) (hl : l.length ≤ 400) : ∃ b,aging_sound.f l = some b ∧ (b = true ↔ Snd l) := by
 unfold aging_sound.f
 rw [if_pos ⟨fun r hr => by
  have := hw r hr
  unfold WF31 at this
  exact ⟨(wf64 this.2.1).2,(wf64 this.2.2).2⟩,by omega⟩]
 refine ⟨_,rfl,?_⟩
 rw [Bool.and_eq_true,sndGo_iff,decide_eq_true_eq]
 have e : (aging_sound.amts l).sum = pre l l.length := amounts_sum l
 rw [e]
 constructor
 ·
  rintro ⟨⟨f1,f2,f3⟩,f4⟩
  refine ⟨?_,f3,fun i hi => (f1 i hi).2,f4⟩
  intro i
  induction i with
  | zero => intro hi;have := f2 hi;exact ⟨by omega,(f1 0 hi).1⟩
  | succ i ih => intro hi;have := ih (by omega);have h2 := f3 i hi;exact ⟨by omega,(f1 (i + 1) hi).1⟩
 ·
  intro h
  refine ⟨⟨fun i hi => ⟨(h.due i hi).2,h.pos i hi⟩,fun hp => by have := h.due 0 hp;omega,h.rise⟩,h.fits⟩
end Go.Proofs.Ytncfoaglmggdhaa.Y
