/- What Satisfied, Oldest, Days, PastDue and Reach answer of a sound plan of at most 400 rows. -/
import Derived.Test.YtncfoaglmggdhaaYAgeA
import Derived.Test.YtncfoaglmggdhaaYx8
import Derived.Test.YtncfoaglmggdhaaYx8
namespace Go.Proofs.Ytncfoaglmggdhaa.Y
open Go.RowKit Go.Proofs.YtncfoaglmggdhaaW.PrintWords Go.Proofs.YtncfoaglmggdhaaW.PrintLast
set_option linter.unusedVariables false

def app (a : Int) : Int := if a < 0 then 0 else a
theorem mx_app (a : Int) : mx a 0 = app a := by rfl
theorem app0 (a : Int) : 0 ≤ app a := by unfold app;split <;> omega
theorem appM {a : Int} (h : a ≤ 9223372036854775807) : app a ≤ 9223372036854775807 := by unfold app;split <;> omega
/-- The oldest row that what was applied doesn't cover. -/
def Fr (l : List Row) (A : Int) (n : Nat) : Prop := n < l.length ∧ pre l n ≤ A ∧ (n + 1 = l.length ∨ A < pre l (n + 1))
theorem Fr.uniq {l : List Row} (h : Snd l) {A : Int} {n m : Nat} (hn : Fr l A n) (hm : Fr l A m) : n = m := by
 rcases Nat.lt_trichotomy n m with c | c | c
 ·
  have h1 := h.mono' (i:=n + 1) (j:=m) (by omega) (by have := hm.1;omega)
  rcases hn.2.2 with g | g
  ·
   have := hm.1;omega
  ·
   have := hm.2.1;omega
 ·
  exact c
 ·
  have h1 := h.mono' (i:=m + 1) (j:=n) (by omega) (by have := hn.1;omega)
  rcases hm.2.2 with g | g
  ·
   have := hn.1;omega
  ·
   have := hn.2.1;omega
theorem Fr.mono {l : List Row} (h : Snd l) {A B : Int} {n m : Nat} (hn : Fr l A n) (hm : Fr l B m) (hAB : A ≤ B) : n ≤ m := by
 rcases Nat.lt_or_ge m n with c | c
 ·
  exfalso
  have h1 := h.mono' (i:=m + 1) (j:=n) (by omega) (by have := hn.1;omega)
  rcases hm.2.2 with g | g
  ·
   have := hn.1;omega
  ·
   have := hn.2.1;omega
 ·
  exact c
theorem front_loop (l : List Row) (hs : Snd l) (hl : l.length ≤ 400) (A : Int) (hA0 : 0 ≤ A) (hA : A ≤ 9223372036854775807) (d : Nat) : ∀ (k i : Nat),i + d = l.length → 0 < d → d < k → pre l i ≤ A →
  ∃ n : Nat,aging_front.l0 k l (A - pre l i) (l.length : Int) (i : Int) = some (n : Int) ∧ Fr l A n := by
 induction d with
 | zero => intro k i _ h;omega
 | succ d ih =>
  intro k i hi _ hk hp
  obtain ⟨k,rfl⟩ : ∃ m,k = m + 1 := ⟨k - 1,by omega⟩
  have hp0 := hs.pre0 (i:=i) (by omega)
  simp only [aging_front.l0]
  rw [if_pos (by omega),if_pos (by omega),if_pos (by omega),pl_w64 (x:=(l.length : Int) - 1) (by omega) (by omega)]
  by_cases c : (i : Int) = (l.length : Int) - 1
  ·
   rw [if_pos c];exact ⟨i,rfl,by omega,hp, .inl (by omega)⟩
  ·
   rw [if_neg c]
   have a0 := hs.amt0 i (by omega)
   have aM := hs.amtM i (by omega)
   have hsum := pre_succ l i (by omega)
   have hM := hs.preM (i:=i + 1) (by omega)
   have e1 : wrap64 ((rd_T31 l (i : Int)).f1 + (rd_T31 l (i : Int)).f2) = amt (rr l (i : Int)) := pl_w64 (by show -9223372036854775808 ≤ amt (rr l (i : Int));omega) (by show amt (rr l (i : Int)) ≤ 9223372036854775807;omega)
   rw [e1]
   by_cases c2 : amt (rr l (i : Int)) > A - pre l i
   ·
    rw [if_pos c2];exact ⟨i,rfl,by omega,hp, .inr (by omega)⟩
   ·
    rw [if_neg c2,pl_w64 (x:=A - pre l i - amt (rr l (i : Int))) (by omega) (by omega),pl_w64 (x:=(i : Int) + 1) (by omega) (by omega)]
    have e : ((i : Int) + 1) = ((i + 1 : Nat) : Int) := by omega
    have e2 : A - pre l i - amt (rr l (i : Int)) = A - pre l (i + 1) := by omega
    rw [e,e2]
    exact ih k (i + 1) (by omega) (by omega) (by omega) (by omega)
/-- front of a sound plan with rows, on which something is owed. -/
theorem front_is (l : List Row) (hs : Snd l) (hl : l.length ≤ 400) (h0 : 0 < l.length) (a R : Int) (ha : a ≤ 9223372036854775807) (hR : ¬ R ≤ 0) (k : Nat) (hk : 500 < k) : ∃ n : Nat,aging_front.f k l a R = some (n : Int) ∧ Fr l (app a) n := by
 unfold aging_front.f
 rw [if_neg hR,mx_app]
 have := front_loop l hs hl (app a) (app0 a) (appM ha) l.length k 0 (by omega) h0 (by omega) (by rw [pre_zero];exact app0 a)
 rwa [pre_zero,Int.sub_zero] at this
theorem front_done (l : List Row) (a R : Int) (hR : R ≤ 0) (k : Nat) : aging_front.f k l a R = some (l.length : Int) := by unfold aging_front.f;rw [if_pos hR]
theorem copied_is (l : List Row) (hl : l.length ≤ 400) : arrearslaw10_copied.f l = some l := by
 unfold arrearslaw10_copied.f
 rw [if_pos (by simp;omega)];simp
section
variable {l : List Row} (hw : rowsOk l) (hs : Snd l) (hl : l.length ≤ 400) (h0 : 0 < l.length) {a R : Int} (ha : a ≤ 9223372036854775807) {k : Nat} (hk : 500 < k)
include hw hs hl
theorem sound_true : aging_sound.f l = some true := by
 obtain ⟨b,hb,hi⟩ := prog_sound l hw hl
 rw [hb,hi.2 hs]
theorem satisfied_done (hR : R ≤ 0) : aging_Satisfied.f k l a R = some (l.length : Int) := by
 unfold aging_Satisfied.f
 rw [sound_true hw hs hl];simp only [Option.bind_some,if_true];rw [front_done l a R hR k];rfl
theorem oldest_done (hR : R ≤ 0) : aging_Oldest.f k l a R = some (0,false) := by
 unfold aging_Oldest.f
 rw [sound_true hw hs hl];simp only [Option.bind_some,if_true];rw [front_done l a R hR k];simp
theorem days_done (hR : R ≤ 0) (t : Int) : aging_Days.f k l a R t = some 0 := by
 unfold aging_Days.f
 rw [oldest_done hw hs hl hR];simp
theorem pastdue_done (hR : R ≤ 0) (t : Int) (hk : 0 < k) : aging_PastDue.f k l a R t = some 0 := by
 obtain ⟨k,rfl⟩ : ∃ m,k = m + 1 := ⟨k - 1,by omega⟩
 unfold aging_PastDue.f
 rw [oldest_done hw hs hl hR];simp [aging_PastDue.j0]
include h0 ha hk
theorem satisfied_is (hR : ¬ R ≤ 0) : ∃ n : Nat,aging_Satisfied.f k l a R = some (n : Int) ∧ aging_Oldest.f k l a R = some ((n : Int),true) ∧ Fr l (app a) n := by
 obtain ⟨n,hn,hf⟩ := front_is l hs hl h0 a R ha hR k hk
 refine ⟨n,?_,?_,hf⟩
 ·
  unfold aging_Satisfied.f
  rw [sound_true hw hs hl];simp only [Option.bind_some,if_true];rw [hn];rfl
 ·
  unfold aging_Oldest.f
  rw [sound_true hw hs hl];simp only [Option.bind_some,if_true];rw [hn];simp only [Option.bind_some]
  rw [if_neg (by have := hf.1;omega)]
/-- by how many days the row is late -/
def lateD (l : List Row) (n : Nat) (t : Int) : Int := if t ≤ (rr l (n : Int)).f0 then 0 else t - (rr l (n : Int)).f0
theorem days_is (hR : ¬ R ≤ 0) {n : Nat} (hf : Fr l (app a) n) (t : Int) (ht : t ≤ 9223372036854775807) : aging_Days.f k l a R t = some (lateD l n t) := by
 obtain ⟨m,_,ho,hm⟩ := satisfied_is hw hs hl h0 ha hk hR
 obtain rfl := Fr.uniq hs hf hm
 have hd := hs.due n hf.1
 unfold aging_Days.f
 rw [ho];simp only [Option.bind_some,if_true]
 rw [if_pos (by omega),if_pos (by have := hf.1;omega)]
 unfold aging_lateness.f lateD
 show (if t ≤ (rr l (n : Int)).f0 then some 0 else some (wrap64 (t - (rr l (n : Int)).f0))).bind _ = _
 by_cases c : t ≤ (rr l (n : Int)).f0
 ·
  rw [if_pos c,if_pos c];rfl
 ·
  rw [if_neg c,if_neg c,pl_w64 (by omega) (by omega)];rfl
theorem reach_is (hR : ¬ R ≤ 0) {n : Nat} (hf : Fr l (app a) n) (t days : Int) (t0 : 0 ≤ t) (t1 : t ≤ 3652059) (d0 : 1 ≤ days) (d1 : days ≤ 3652059) :
  aging_Reach.f k l a R t days = some (mx (t + 1) ((rr l (n : Int)).f0 + days),true) := by
 obtain ⟨m,_,ho,hm⟩ := satisfied_is hw hs hl h0 ha hk hR
 obtain rfl := Fr.uniq hs hf hm
 have hd := hs.due n hf.1
 unfold aging_Reach.f
 rw [ho];simp only [Option.bind_some,if_true]
 rw [if_neg (by omega),if_neg (by omega),if_neg (by omega),if_neg (by omega),if_pos (by omega),if_pos (by have := hf.1;omega),pl_w64 (x:=t + 1) (by omega) (by omega)]
 rw [show wrap64 ((rd_T31 l (n : Int)).f0 + days) = (rr l (n : Int)).f0 + days from pl_w64 (by show _ ≤ (rr l (n : Int)).f0 + days;omega) (by show (rr l (n : Int)).f0 + days ≤ _;omega)]
end
/-- How many rows are due ahead of the day. -/
def DueTo (l : List Row) (t : Int) (m : Nat) : Prop := m ≤ l.length ∧ (∀ i,i < m → (rr l (i : Int)).f0 < t) ∧ (m < l.length → t ≤ (rr l (m : Int)).f0)
theorem DueTo.uniq {l : List Row} {t : Int} {m m' : Nat} (h : DueTo l t m) (h' : DueTo l t m') : m = m' := by
 rcases Nat.lt_trichotomy m m' with c | c | c
 ·
  have h1 := h.2.2 (by have := h'.1;omega)
  have h2 := h'.2.1 m c
  omega
 ·
  exact c
 ·
  have h1 := h'.2.2 (by have := h.1;omega)
  have h2 := h.2.1 m' c
  omega
theorem past_loop (l : List Row) (hs : Snd l) (hl : l.length ≤ 400) (A R t a : Int) (hA0 : 0 ≤ A) (hA : A ≤ 9223372036854775807) (d : Nat) : ∀ (k i : Nat),i + d = l.length → d < k → (∀ j,j < i → (rr l (j : Int)).f0 < t) →
  ∃ m,aging_PastDue.l0 k t (pre l i - A) l (l.length : Int) (i : Int) a R = some (mn (pre l m - A) R) ∧ DueTo l t m := by
 induction d with
 | zero =>
  intro k i hi hk hj
  obtain ⟨k,rfl⟩ : ∃ m,k = m + 1 := ⟨k - 1,by omega⟩
  simp only [aging_PastDue.l0]
  rw [if_neg (by omega)]
  exact ⟨i,rfl,by omega,hj,by omega⟩
 | succ d ih =>
  intro k i hi hk hj
  obtain ⟨k,rfl⟩ : ∃ m,k = m + 1 := ⟨k - 1,by omega⟩
  simp only [aging_PastDue.l0]
  rw [if_pos (by omega),if_pos (by omega),if_pos (by omega)]
  show ∃ m,(if (rr l (i : Int)).f0 ≥ t then _ else _) = _ ∧ _
  by_cases c : (rr l (i : Int)).f0 ≥ t
  ·
   rw [if_pos c];exact ⟨i,rfl,by omega,hj,fun _ => by omega⟩
  ·
   have a0 := hs.amt0 i (by omega)
   have aM := hs.amtM i (by omega)
   have hsum := pre_succ l i (by omega)
   have hM := hs.preM (i:=i + 1) (by omega)
   have hp0 := hs.pre0 (i:=i) (by omega)
   rw [if_neg c,show wrap64 ((rd_T31 l (i : Int)).f1 + (rd_T31 l (i : Int)).f2) = amt (rr l (i : Int)) from pl_w64 (by show -9223372036854775808 ≤ amt (rr l (i : Int));omega) (by show amt (rr l (i : Int)) ≤ 9223372036854775807;omega),
    pl_w64 (x:=pre l i - A + amt (rr l (i : Int))) (by omega) (by omega),pl_w64 (x:=(i : Int) + 1) (by omega) (by omega)]
   have e : ((i : Int) + 1) = ((i + 1 : Nat) : Int) := by omega
   have e2 : pre l i - A + amt (rr l (i : Int)) = pre l (i + 1) - A := by omega
   rw [e,e2]
   refine ih k (i + 1) (by omega) (by omega) ?_
   intro j h
   rcases Nat.lt_or_ge j i with g | g
   ·
    exact hj j g
   ·
    have : j = i := by omega
    subst this;omega
/-- What is past due. -/
def pastV (l : List Row) (a R t : Int) (n m : Nat) : Int := if t ≤ (rr l (n : Int)).f0 then 0 else if m = l.length then R else mn (pre l m - app a) R
theorem past_is {l : List Row} (hw : rowsOk l) (hs : Snd l) (hl : l.length ≤ 400) (h0 : 0 < l.length) {a R : Int} (ha : a ≤ 9223372036854775807) (hR : ¬ R ≤ 0) {n : Nat} (hf : Fr l (app a) n) (t : Int) {k : Nat} (hk : 500 < k) :
  ∃ m,aging_PastDue.f k l a R t = some (pastV l a R t n m) ∧ DueTo l t m := by
 obtain ⟨n',_,ho,hm⟩ := satisfied_is hw hs hl h0 ha hk hR
 obtain rfl := Fr.uniq hs hf hm
 have hA0 := app0 a
 have hA := appM ha
 obtain ⟨k,rfl⟩ : ∃ m,k = m + 1 := ⟨k - 1,by omega⟩
 obtain ⟨m,hl0,hd⟩ := past_loop l hs hl (app a) R t a hA0 hA l.length k 0 (by omega) (by omega) (fun j h => by omega)
 refine ⟨m,?_,hd⟩
 unfold aging_PastDue.f
 rw [ho];simp only [Option.bind_some,if_true]
 rw [if_pos (by omega),if_pos (by have := hf.1;omega)]
 simp only [aging_PastDue.j0]
 show (if decide ((rr l (n : Int)).f0 ≥ t) = true then _ else _) = _
 unfold pastV
 by_cases c : t ≤ (rr l (n : Int)).f0
 ·
  rw [if_pos (by simpa using c),if_pos c]
 ·
  rw [if_neg (by simpa using c),if_neg c,pl_w64 (x:=(l.length : Int) - 1) (by omega) (by omega),if_pos (by omega),if_pos (by omega)]
  have e : ((l.length : Int) - 1) = ((l.length - 1 : Nat) : Int) := by omega
  rw [e]
  show (if (rr l ((l.length - 1 : Nat) : Int)).f0 < t then _ else _) = _
  by_cases c2 : (rr l ((l.length - 1 : Nat) : Int)).f0 < t
  ·
   rw [if_pos c2,if_pos]
   rcases Nat.lt_or_ge m l.length with g | g
   ·
    exfalso
    have h1 := hd.2.2 g
    rcases Nat.lt_or_ge m (l.length - 1) with g2 | g2
    ·
     have := hs.due_mono g2 (by omega);omega
    ·
     have : m = l.length - 1 := by omega
     subst this;omega
   ·
    have := hd.1;omega
  ·
   rw [if_neg c2,if_neg,mx_app,pl_w64 (x:=-app a) (by omega) (by omega)]
   ·
    rw [pre_zero,Int.zero_sub] at hl0
    exact hl0
   ·
    intro hml
    have := hd.2.1 (l.length - 1) (by omega)
    omega
end Go.Proofs.Ytncfoaglmggdhaa.Y
