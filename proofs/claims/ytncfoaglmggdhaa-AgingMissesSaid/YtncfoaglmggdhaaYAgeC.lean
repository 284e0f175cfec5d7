/- Plain facts: every answer of the document's on a plan is the program's. No condition beyond the plan's length. -/
import Derived.Test.YtncfoaglmggdhaaYAgeB
import Derived.Test.YtncfoaglmggdhaaYx8
import Derived.Test.YtncfoaglmggdhaaYx9
import Derived.Test.YtncfoaglmggdhaaYx9
import Derived.Test.YtncfoaglmggdhaaYx11
import Derived.Test.YtncfoaglmggdhaaYx6
import Derived.Test.YtncfoaglmggdhaaYx8
import Derived.Test.YtncfoaglmggdhaaYx3
import Derived.Test.YtncfoaglmggdhaaYx7
import Derived.Test.YtncfoaglmggdhaaYx2
import Derived.Test.YtncfoaglmggdhaaYx6
namespace Go.Proofs.Ytncfoaglmggdhaa.Y
open Go.RowKit Go.Proofs.YtncfoaglmggdhaaW.PrintWords Go.Proofs.YtncfoaglmggdhaaW.PrintLast Go.Proofs.YtncfoaglmggdhaaW.PrintMore
set_option linter.unusedVariables false
set_option linter.unusedSimpArgs false
theorem paid_is (A R : Int) : arrearsref10_paid.f A R = some (app A) := by
 unfold arrearsref10_paid.f app
 split <;> rfl
theorem sat_loop (l : List Row) (hs : Snd l) (hl : l.length ≤ 400) (A R : Int) (d : Nat) : ∀ (k i n : Nat),i + d + 1 = l.length → d < k → n ≤ i → pre l n ≤ app A → (∀ m,n < m → m ≤ i → app A < pre l m) →
  ∃ n' : Nat,arrearsref10_satisfied.l0 k l (n : Int) (pre l i) (i : Int) A R = some (n' : Int) ∧ Fr l (app A) n' := by
 induction d with
 | zero =>
  intro k i n hi hk hn hp hm
  obtain ⟨k,rfl⟩ : ∃ m,k = m + 1 := ⟨k - 1,by omega⟩
  refine ⟨n,?_,by omega,hp,?_⟩
  ·
   simp only [arrearsref10_satisfied.l0]
   rw [pl_w64 (x:=(i : Int) + 1) (by omega) (by omega),if_neg (by omega)]
  ·
   rcases Nat.lt_or_ge n i with c | c
   ·
    exact .inr (hm (n + 1) (by omega) (by omega))
   ·
    exact .inl (by omega)
 | succ d ih =>
  intro k i n hi hk hn hp hm
  obtain ⟨k,rfl⟩ : ∃ m,k = m + 1 := ⟨k - 1,by omega⟩
  have h1 := pre_succ l i (by omega)
  have h0 := hs.pre0 (i:=i) (by omega)
  have hM := hs.preM (i:=i + 1) (by omega)
  have hpos := hs.pos i (by omega)
  unfold amt at h1
  have e : wrap64 ((wrap64 (pre l i + (rr l (i : Int)).f1)) + (rr l (i : Int)).f2) = pre l (i + 1) := by
   rw [pl_w64 (x:=pre l i + (rr l (i : Int)).f1) (by omega) (by omega),pl_w64 (by omega) (by omega)];omega
  simp only [arrearsref10_satisfied.l0]
  rw [pl_w64 (x:=(i : Int) + 1) (by omega) (by omega),if_pos (by omega),if_pos (by omega),if_pos (by omega),paid_is,Option.bind_some]
  have e2 : (i : Int) + 1 = ((i + 1 : Nat) : Int) := by omega
  show ∃ n' : Nat,(if wrap64 ((wrap64 (pre l i + (rr l (i : Int)).f1)) + (rr l (i : Int)).f2) ≤ app A then arrearsref10_satisfied.l0 k l ((i : Int) + 1) (wrap64 ((wrap64 (pre l i + (rr l (i : Int)).f1)) + (rr l (i : Int)).f2)) ((i : Int) + 1) A R
   else arrearsref10_satisfied.l0 k l (n : Int) (wrap64 ((wrap64 (pre l i + (rr l (i : Int)).f1)) + (rr l (i : Int)).f2)) ((i : Int) + 1) A R) = some (n' : Int) ∧ _
  rw [e,e2]
  by_cases c : pre l (i + 1) ≤ app A
  ·
   rw [if_pos c]
   exact ih k (i + 1) (i + 1) (by omega) (by omega) (Nat.le_refl _) c (fun m h1 h2 => by omega)
  ·
   rw [if_neg c]
   exact ih k (i + 1) n (by omega) (by omega) (by omega) hp (fun m h1 h2 => by
    by_cases e : m = i + 1
    ·
     subst e;omega
    ·
     exact hm m h1 (by omega))
theorem samePlan_loop (l : List Row) (hl : l.length ≤ 400) (d : Nat) : ∀ (k i : Nat),i + d = l.length → d < k → arrearslaw10_samePlan.l0 k l l (i : Int) = some true := by
 induction d with
 | zero =>
  intro k i hi hk
  obtain ⟨k,rfl⟩ : ∃ m,k = m + 1 := ⟨k - 1,by omega⟩
  simp only [arrearslaw10_samePlan.l0]
  rw [if_neg (by omega)]
 | succ d ih =>
  intro k i hi hk
  obtain ⟨k,rfl⟩ : ∃ m,k = m + 1 := ⟨k - 1,by omega⟩
  simp only [arrearslaw10_samePlan.l0]
  rw [if_pos (by omega),if_pos (by omega),if_pos (by omega),if_neg (by simp),pl_w64 (x:=(i : Int) + 1) (by omega) (by omega)]
  exact ih k (i + 1) (by omega) (by omega)
theorem samePlan_self (l : List Row) (hl : l.length ≤ 400) (k : Nat) (hk : 1000 < k) : arrearslaw10_samePlan.f k l l = some true := by
 unfold arrearslaw10_samePlan.f
 rw [if_pos rfl]
 exact samePlan_loop l hl l.length k 0 (by omega) (by omega)
/-- The rows from row i on, d of them, that are missed. -/
def miss (l : List Row) (t g : Int) : Nat → Nat → List Int
 | _,0 => []
 | i,d + 1 => if lateD l i t ≤ mx g 0 then [] else if (rr l (i : Int)).f3 = true then miss l t g (i + 1) d else (i : Int) :: miss l t g (i + 1) d
theorem miss_len (l : List Row) (t g : Int) : ∀ (d i : Nat),(miss l t g i d).length ≤ d := by
 intro d
 induction d with
 | zero => intro i;simp [miss]
 | succ d ih =>
  intro i
  have := ih (i + 1)
  simp only [miss]
  split
  ·
   simp
  ·
   split
   ·
    omega
   ·
    rw [List.length_cons];omega
theorem missed_loop (l : List Row) (hs : Snd l) (hl : l.length ≤ 400) (t g : Int) (ht : t ≤ 9223372036854775807) (d : Nat) : ∀ (k i : Nat) (acc : List Int),i + d = l.length → d < k → acc.length ≤ i →
  aging_Missed.l0 k l t g acc (i : Int) = some (acc ++ miss l t g i d) := by
 induction d with
 | zero =>
  intro k i acc hi hk ha
  obtain ⟨k,rfl⟩ : ∃ m,k = m + 1 := ⟨k - 1,by omega⟩
  simp only [aging_Missed.l0]
  rw [if_neg (by omega)];simp [miss]
 | succ d ih =>
  intro k i acc hi hk ha
  obtain ⟨k,rfl⟩ : ∃ m,k = m + 1 := ⟨k - 1,by omega⟩
  have hdue := hs.due i (by omega)
  have hlate : ∀ b : Bool,aging_lateness.f ((rr l (i : Int)).f0) ((rr l (i : Int)).f1) ((rr l (i : Int)).f2) b t = some (lateD l i t) := by
   intro b
   unfold aging_lateness.f lateD
   split
   ·
    rfl
   ·
    rw [pl_w64 (by omega) (by omega)]
  simp only [aging_Missed.l0]
  rw [if_pos (by omega),if_pos (by omega)]
  show Option.bind (aging_lateness.f ((rr l (i : Int)).f0) ((rr l (i : Int)).f1) ((rr l (i : Int)).f2) ((rr l (i : Int)).f3) t) _ = _
  rw [hlate,Option.bind_some,show wrap64 ((i : Int) + 1) = ((i + 1 : Nat) : Int) from by rw [pl_w64 (by omega) (by omega)];omega]
  simp only [miss]
  by_cases c : lateD l i t ≤ mx g 0
  ·
   rw [if_pos c,if_pos c];simp
  ·
   rw [if_neg c,if_neg c]
   show (if ((rr l (i : Int)).f3 = true) then _ else _) = _
   by_cases m : (rr l (i : Int)).f3 = true
   ·
    rw [if_pos m,if_pos m]
    exact ih k (i + 1) acc (by omega) (by omega) (by omega)
   ·
    rw [if_neg m,if_neg m,if_pos (by omega),ih k (i + 1) _ (by omega) (by omega) (by rw [List.length_append,List.length_singleton];omega)]
    simp
theorem one_len (l : List Row) (i : Int) : (aging_Mark.markOne l i).length = l.length := by
 unfold aging_Mark.markOne
 split
 ·
  simp
 ·
  rfl
theorem one_at (l : List Row) (i : Int) (j : Nat) (hj : j < l.length) : rr (aging_Mark.markOne l i) (j : Int) = ⟨(rr l (j : Int)).f0,(rr l (j : Int)).f1,(rr l (j : Int)).f2,(rr l (j : Int)).f3 || decide ((j : Int) = i)⟩ := by
 unfold aging_Mark.markOne
 by_cases c : 0 ≤ i ∧ i < l.length
 ·
  rw [if_pos c]
  have e : rr (l.set i.toNat ⟨(rr l i).f0,(rr l i).f1,(rr l i).f2,true⟩) (j : Int) = if i.toNat = j then ⟨(rr l i).f0,(rr l i).f1,(rr l i).f2,true⟩ else rr l (j : Int) := by
   rw [rr_at _ j (by simpa using hj),rr_at l j hj,List.getElem_set]
  show rr (l.set i.toNat ⟨(rr l i).f0,(rr l i).f1,(rr l i).f2,true⟩) (j : Int) = _
  rw [e]
  by_cases d : i.toNat = j
  ·
   have d' : i = (j : Int) := by omega
   rw [if_pos d,d',decide_eq_true rfl,Bool.or_true]
  ·
   rw [if_neg d,decide_eq_false (by omega),Bool.or_false]
 ·
  rw [if_neg c,decide_eq_false (by omega),Bool.or_false]
theorem all_len (is : List Int) : ∀ l : List Row,(aging_Mark.markAll l is).length = l.length := by
 induction is with
 | nil => intro l;rfl
 | cons i is ih =>
  intro l
  show (aging_Mark.markAll (aging_Mark.markOne l i) is).length = _
  rw [ih,one_len]
theorem all_at (is : List Int) : ∀ (l : List Row) (j : Nat),j < l.length → rr (aging_Mark.markAll l is) (j : Int) = ⟨(rr l (j : Int)).f0,(rr l (j : Int)).f1,(rr l (j : Int)).f2,(rr l (j : Int)).f3 || decide ((j : Int) ∈ is)⟩ := by
 induction is with
 | nil => intro l j hj;show rr l (j : Int) = _;simp
 | cons i is ih =>
  intro l j hj
  show rr (aging_Mark.markAll (aging_Mark.markOne l i) is) (j : Int) = _
  rw [ih _ j (by rw [one_len];exact hj),one_at l i j hj]
  dsimp only
  rw [Bool.or_assoc]
  congr 2
  by_cases e : (j : Int) = i
  ·
   simp [e]
  ·
   by_cases m : (j : Int) ∈ is <;> simp [e,m]

theorem kase (l : List Row) (hw : rowsOk l) (hl : l.length ≤ 400) (A R : Int) (hA : A ≤ 9223372036854775807) (k : Nat) (hk : 3000 < k) :
  (arrearsref10_rows.f k l = some [] ∧ aging_sound.f l = some false) ∨
  (arrearsref10_rows.f k l = some l ∧ aging_sound.f l = some true ∧ arrearsref10_satisfied.f k l A R = some (l.length : Int) ∧ aging_front.f k l A R = some (l.length : Int) ∧ (R ≤ 0 ∨ l = [])) ∨
  (arrearsref10_rows.f k l = some l ∧ aging_sound.f l = some true ∧ Snd l ∧ ¬ R ≤ 0 ∧ ∃ n : Nat,arrearsref10_satisfied.f k l A R = some (n : Int) ∧ aging_front.f k l A R = some (n : Int) ∧ Fr l (app A) n) := by
 obtain ⟨b,hb,hi⟩ := ref_Sound l hw hl k (by omega)
 obtain ⟨b2,hb2,hi2⟩ := prog_sound l hw hl
 have eb : b = b2 := by
  cases b <;> cases b2 <;> simp at hi hi2 ⊢
  ·
   exact hi hi2
  ·
   exact hi2 hi
 subst eb
 have hrows : arrearsref10_rows.f k l = some (if b = true then l else []) := by
  unfold arrearsref10_rows.f;rw [hb,Option.bind_some];cases b <;> rfl
 obtain ⟨k,rfl⟩ : ∃ m,k = m + 1 := ⟨k - 1,by omega⟩
 cases b with
 | false => exact .inl ⟨hrows,hb2⟩
 | true =>
  have hs := hi.1 rfl
  replace hb : arrearsref10_rows.f (k + 1) l = some l := hrows
  by_cases c : R ≤ 0
  ·
   exact .inr (.inl ⟨hb,hb2,by unfold arrearsref10_satisfied.f;rw [if_pos c],front_done l A R c _, .inl c⟩)
  ·
   by_cases h0 : 0 < l.length
   ·
    obtain ⟨n,hn,hf⟩ := front_is l hs hl h0 A R hA c (k + 1) (by omega)
    have h1 : ∃ n' : Nat,arrearsref10_satisfied.f (k + 1) l A R = some (n' : Int) ∧ Fr l (app A) n' := by
     unfold arrearsref10_satisfied.f
     rw [if_neg c]
     have := sat_loop l hs hl A R (l.length - 1) (k + 1) 0 0 (by omega) (by omega) (Nat.le_refl _) (by rw [pre_zero];exact app0 A) (fun m h1 h2 => by omega)
     rw [pre_zero] at this
     exact this
    obtain ⟨n',hn',hf'⟩ := h1
    obtain rfl := Fr.uniq hs hf hf'
    exact .inr (.inr ⟨hb,hb2,hs,c,n,hn',hn,hf⟩)
   ·
    have e0 : l = [] := List.length_eq_zero_iff.1 (by omega)
    subst e0
    refine .inr (.inl ⟨hb,hb2,?_,?_, .inr rfl⟩)
    ·
     unfold arrearsref10_satisfied.f
     rw [if_neg c]
     simp only [arrearsref10_satisfied.l0]
     rw [pl_w64 (x:=(0 : Int) + 1) (by omega) (by omega),if_neg (by simp)];rfl
    ·
     unfold aging_front.f
     rw [if_neg c]
     simp only [aging_front.l0]
     rw [if_neg (by simp)];rfl
theorem sat_nil (A R : Int) (k : Nat) (hk : 0 < k) : arrearsref10_satisfied.f k [] A R = some 0 := by
 obtain ⟨k,rfl⟩ : ∃ m,k = m + 1 := ⟨k - 1,by omega⟩
 unfold arrearsref10_satisfied.f
 split
 ·
  rfl
 ·
  simp only [arrearsref10_satisfied.l0]
  rw [pl_w64 (x:=(0 : Int) + 1) (by omega) (by omega),if_neg (by simp)]
section
variable (l : List Row) (hw : rowsOk l) (hl : l.length ≤ 400) (A R : Int) (hA : A ≤ 9223372036854775807) (k : Nat) (hk : 3000 < k)
include hw hl hA hk
theorem old_same : (aging_Oldest.f k l A R = some (0,false) ∧ arrearsref10_Oldest.f k l A R = some (0,false) ∧ ((aging_sound.f l = some false ∧ arrearsref10_rows.f k l = some []) ∨ (aging_sound.f l = some true ∧ arrearsref10_rows.f k l = some l ∧ arrearsref10_satisfied.f k l A R = some (l.length : Int) ∧ aging_front.f k l A R = some (l.length : Int) ∧ (R ≤ 0 ∨ l = [])))) ∨
  ∃ n : Nat,aging_Oldest.f k l A R = some ((n : Int),true) ∧ arrearsref10_Oldest.f k l A R = some ((n : Int),true) ∧ aging_sound.f l = some true ∧ arrearsref10_rows.f k l = some l ∧ Snd l ∧ ¬ R ≤ 0 ∧ arrearsref10_satisfied.f k l A R = some (n : Int) ∧ aging_front.f k l A R = some (n : Int) ∧ Fr l (app A) n := by
 rcases kase l hw hl A R hA k hk with ⟨h1,h2⟩ | ⟨h1,h2,h3,h4,h5⟩ | ⟨h1,h2,hs,hR,n,h3,h4,h5⟩
 ·
  refine .inl ⟨?_,?_, .inl ⟨h2,h1⟩⟩
  ·
   unfold aging_Oldest.f;rw [h2];rfl
  ·
   unfold arrearsref10_Oldest.f;rw [h1,Option.bind_some,sat_nil A R k (by omega),Option.bind_some,if_pos (by simp)]
 ·
  refine .inl ⟨?_,?_, .inr ⟨h2,h1,h3,h4,h5⟩⟩
  ·
   unfold aging_Oldest.f;rw [h2,Option.bind_some,if_pos rfl,h4,Option.bind_some,if_pos rfl]
  ·
   unfold arrearsref10_Oldest.f;rw [h1,Option.bind_some,h3,Option.bind_some,if_pos (by omega)]
 ·
  have := h5.1
  refine .inr ⟨n,?_,?_,h2,h1,hs,hR,h3,h4,h5⟩
  ·
   unfold aging_Oldest.f;rw [h2,Option.bind_some,if_pos rfl,h4,Option.bind_some,if_neg (by omega)]
  ·
   unfold arrearsref10_Oldest.f;rw [h1,Option.bind_some,h3,Option.bind_some,if_neg (by omega)]
theorem oldest_same : ∃ q,aging_Oldest.f k l A R = some q ∧ arrearsref10_Oldest.f k l A R = some q := by
 rcases old_same l hw hl A R hA k hk with ⟨h1,h2,_⟩ | ⟨n,h1,h2,_⟩
 ·
  exact ⟨_,h1,h2⟩
 ·
  exact ⟨_,h1,h2⟩
theorem satisfied_same : ∃ q,aging_Satisfied.f k l A R = some q ∧ arrearsref10_Satisfied.f k l A R = some q := by
 unfold aging_Satisfied.f arrearsref10_Satisfied.f
 rcases old_same l hw hl A R hA k hk with ⟨_,_,⟨h1,h2⟩ | ⟨h1,h2,h3,h4,_⟩⟩ | ⟨n,_,_,h1,h2,_,_,h3,h4,_⟩
 ·
  rw [h1,h2];simp only [Option.bind_some];rw [if_neg (by simp),sat_nil A R k (by omega)];exact ⟨_,rfl,rfl⟩
 ·
  rw [h1,h2,Option.bind_some,Option.bind_some,if_pos rfl,h3,h4];exact ⟨_,rfl,rfl⟩
 ·
  rw [h1,h2,Option.bind_some,Option.bind_some,if_pos rfl,h3,h4];exact ⟨_,rfl,rfl⟩
omit hw hl hA hk in
theorem late_pair (hs : Snd l) (n : Nat) (hn : n < l.length) (t : Int) (ht : t ≤ 9223372036854775807) (b : Bool) : aging_lateness.f ((rr l (n : Int)).f0) ((rr l (n : Int)).f1) ((rr l (n : Int)).f2) b t = some (lateD l n t) ∧ arrearsref10_late.f ((rr l (n : Int)).f0) ((rr l (n : Int)).f1) ((rr l (n : Int)).f2) b t = some (lateD l n t) := by
 have hd := hs.due n hn
 unfold aging_lateness.f arrearsref10_late.f lateD
 by_cases c : t ≤ (rr l (n : Int)).f0
 ·
  constructor <;> rw [if_pos c] <;> rw [if_pos c]
 ·
  constructor
  ·
   rw [if_neg c,if_neg c,pl_w64 (by omega) (by omega)]
  ·
   rw [if_neg c,if_neg c,pl_w64 (by omega) (by omega)]
theorem days_same (t : Int) (ht : t ≤ 9223372036854775807) : ∃ q,aging_Days.f k l A R t = some q ∧ arrearsref10_Days.f k l A R t = some q := by
 unfold aging_Days.f arrearsref10_Days.f
 rcases old_same l hw hl A R hA k hk with ⟨h1,h2,_⟩ | ⟨n,h1,h2,_,_,hs,_,_,_,hf⟩
 ·
  rw [h1,h2];exact ⟨0,rfl,rfl⟩
 ·
  have hn := hf.1
  rw [h1,h2]
  simp only [Option.bind_some,if_true]
  rw [if_pos (by omega),if_pos (by omega),if_pos (by omega),if_pos (by omega)]
  have hp := late_pair l hs n hn t ht ((rr l (n : Int)).f3)
  unfold rr at hp
  rw [hp.1,hp.2]
  exact ⟨_,rfl,rfl⟩
theorem reach_same (t n : Int) : ∃ q,aging_Reach.f k l A R t n = some q ∧ arrearsref10_Reach.f k l A R t n = some q := by
 unfold aging_Reach.f arrearsref10_Reach.f
 obtain ⟨k',hk'⟩ : ∃ m,k = m + 1 := ⟨k - 1,by omega⟩
 rcases old_same l hw hl A R hA k hk with ⟨h1,h2,_⟩ | ⟨m,h1,h2,_,_,hs,_,_,_,hf⟩
 ·
  rw [h1,h2]
  simp only [Option.bind_some]
  rw [if_neg (by simp),if_neg (by simp),hk']
  exact ⟨_,rfl,by simp [arrearsref10_Reach.j0]⟩
 ·
  have hm := hf.1
  rw [h1,h2]
  simp only [Option.bind_some,if_true]
  rw [hk']
  by_cases c1 : t < 0
  ·
   rw [if_pos c1,if_pos c1];exact ⟨_,rfl,by simp [arrearsref10_Reach.j0]⟩
  rw [if_neg c1,if_neg c1]
  by_cases c2 : t > 3652059
  ·
   rw [if_pos c2,if_pos c2];exact ⟨_,rfl,by simp [arrearsref10_Reach.j0]⟩
  rw [if_neg c2,if_neg c2]
  by_cases c3 : n < 1
  ·
   rw [if_pos c3,if_pos c3];exact ⟨_,rfl,by simp [arrearsref10_Reach.j0]⟩
  rw [if_neg c3,if_neg c3]
  by_cases c4 : n > 3652059
  ·
   rw [if_pos c4,decide_eq_true c4];exact ⟨_,rfl,by simp [arrearsref10_Reach.j0]⟩
  rw [if_neg c4,decide_eq_false c4]
  have hd := hs.due m hm
  simp only [arrearsref10_Reach.j0,Bool.false_eq_true,if_false]
  rw [if_pos (by omega),if_pos (by omega),if_pos (by omega),if_pos (by omega)]
  show ∃ q,some (mx (wrap64 (t + 1)) (wrap64 ((rr l (m : Int)).f0 + n)),true) = some q ∧ Option.bind (arrearsref10_late.f ((rr l (m : Int)).f0) ((rr l (m : Int)).f1) ((rr l (m : Int)).f2) ((rr l (m : Int)).f3) (wrap64 (t + 1))) (fun t151 => if t151 < n then some (wrap64 ((rr l (m : Int)).f0 + n),true) else some (wrap64 (t + 1),true)) = some q
  rw [pl_w64 (x:=t + 1) (by omega) (by omega),pl_w64 (x:=(rr l (m : Int)).f0 + n) (by omega) (by omega)]
  refine ⟨_,rfl,?_⟩
  unfold arrearsref10_late.f mx
  by_cases c5 : t + 1 ≤ (rr l (m : Int)).f0
  ·
   rw [if_pos c5,Option.bind_some,if_pos (by omega),if_pos (by omega)]
  ·
   rw [if_neg c5,Option.bind_some,pl_w64 (x:=t + 1 - (rr l (m : Int)).f0) (by omega) (by omega)]
   by_cases c6 : t + 1 - (rr l (m : Int)).f0 < n
   ·
    rw [if_pos c6,if_pos (by omega)]
   ·
    rw [if_neg c6,if_neg (by omega)]
omit hw hA hk in
theorem before_loop (hs : Snd l) (m : Nat) (hm : m ≤ l.length) : ∀ (d k i : Nat),i + d = m → d < k → arrearsref10_before.l0 k l (m : Int) (pre l i) (i : Int) = some (pre l m) := by
 intro d
 induction d with
 | zero =>
  intro k i hi hk
  obtain ⟨k,rfl⟩ : ∃ q,k = q + 1 := ⟨k - 1,by omega⟩
  obtain rfl : i = m := by omega
  rw [arrearsref10_before.l0,if_neg (by omega)]
 | succ d ih =>
  intro k i hi hk
  obtain ⟨k,rfl⟩ : ∃ q,k = q + 1 := ⟨k - 1,by omega⟩
  have h1 := pre_succ l i (by omega)
  have h0 := hs.pre0 (i:=i) (by omega)
  have hM := hs.preM (i:=i + 1) (by omega)
  have hpos := hs.pos i (by omega)
  unfold amt at h1
  have e : wrap64 ((wrap64 (pre l i + (rr l (i : Int)).f1)) + (rr l (i : Int)).f2) = pre l (i + 1) := by
   rw [pl_w64 (x:=pre l i + (rr l (i : Int)).f1) (by omega) (by omega),pl_w64 (by omega) (by omega)];omega
  unfold rr at e
  rw [arrearsref10_before.l0,if_pos (by omega),if_pos (by omega),if_pos (by omega),e,pl_w64 (x:=(i : Int) + 1) (by omega) (by omega),show (i : Int) + 1 = ((i + 1 : Nat) : Int) by omega]
  exact ih k (i + 1) (by omega) (by omega)
omit hw hA hk in
theorem rpast_loop (hs : Snd l) (t : Int) (m : Nat) (hd : DueTo l t m) (K : Nat) : ∀ (d i : Nat),i + d = m → arrearsref10_PastDue.l0 (d + 1 + K) t l (i : Int) A R = arrearsref10_PastDue.j2 K l (m : Int) A R := by
 intro d
 induction d with
 | zero =>
  intro i hi
  obtain rfl : i = m := by omega
  rw [show 0 + 1 + K = K + 1 by omega,arrearsref10_PastDue.l0]
  by_cases c : (i : Int) < (l.length : Int)
  ·
   have := hd.2.2 (by omega)
   unfold rr at this
   rw [if_pos c,if_pos (by omega),if_neg (by omega)]
  ·
   rw [if_neg c]
 | succ d ih =>
  intro i hi
  have h1 := hd.2.1 i (by omega)
  have h2 := hd.1
  unfold rr at h1
  rw [show d + 1 + 1 + K = (d + 1 + K) + 1 by omega,arrearsref10_PastDue.l0,if_pos (by omega),if_pos (by omega),if_pos h1,pl_w64 (x:=(i : Int) + 1) (by omega) (by omega),show (i : Int) + 1 = ((i + 1 : Nat) : Int) by omega]
  exact ih (i + 1) (by omega)
theorem pastdue_same (t : Int) : ∃ q,aging_PastDue.f k l A R t = some q ∧ arrearsref10_PastDue.f k l A R t = some q := by
 obtain ⟨k',hk'⟩ : ∃ m,k = m + 1 := ⟨k - 1,by omega⟩
 rcases old_same l hw hl A R hA k hk with ⟨h1,h2,h⟩ | ⟨n,h1,h2,hsd,hrw,hs,hR,h3,h4,hf⟩
 ·
  have e1 : aging_PastDue.f k l A R t = some 0 := by
   unfold aging_PastDue.f
   rw [h1]
   simp only [Option.bind_some]
   rw [if_neg (by simp),hk',aging_PastDue.j0,if_pos rfl]
  refine ⟨0,e1,?_⟩
  unfold arrearsref10_PastDue.f
  have hz : ∀ x : List Row,(R ≤ 0 ∨ x = []) → (if R ≤ 0 then arrearsref10_PastDue.j0 k t x true A R else arrearsref10_PastDue.j0 k t x ((x.length : Int) == 0) A R) = some 0 := by
   intro x hx
   rw [hk']
   by_cases c' : R ≤ 0
   ·
    rw [if_pos c',arrearsref10_PastDue.j0,if_pos rfl]
   ·
    rcases hx with c | c
    ·
     exact absurd c c'
    ·
     subst c
     rw [if_neg c',arrearsref10_PastDue.j0,if_pos (by simp)]
  rcases h with ⟨_,h⟩ | ⟨_,h,_,_,c⟩
  ·
   rw [h,Option.bind_some];exact hz [] (.inr rfl)
  ·
   rw [h,Option.bind_some];exact hz l c
 ·
  have hn := hf.1
  obtain ⟨m,hp,hd⟩ := past_is hw hs hl (by omega) hA hR hf t (k:=k) (by omega)
  refine ⟨_,hp,?_⟩
  have a0 := app0 A
  have aM := appM hA
  unfold arrearsref10_PastDue.f
  rw [hrw]
  simp only [Option.bind_some]
  rw [if_neg hR,show ((l.length : Int) == 0) = false from by rw [beq_eq_false_iff_ne];omega,hk',arrearsref10_PastDue.j0,if_neg (by simp),pl_w64 (x:=(l.length : Int) - 1) (by omega) (by omega),if_pos (by omega),if_pos (by omega),show ((l.length : Int) - 1) = ((l.length - 1 : Nat) : Int) by omega]
  have hml : m = l.length ↔ (rr l ((l.length - 1 : Nat) : Int)).f0 < t := by
   constructor
   ·
    intro e;exact hd.2.1 _ (by omega)
   ·
    intro e
    rcases Nat.lt_or_ge m l.length with g | g
    ·
     have h5 := hd.2.2 g
     rcases Nat.lt_or_ge m (l.length - 1) with g2 | g2
     ·
      have := hs.due_mono g2 (by omega);omega
     ·
      have : m = l.length - 1 := by omega
      subst this;omega
    ·
     have := hd.1;omega
  show (if (rr l ((l.length - 1 : Nat) : Int)).f0 < t then _ else _) = _
  unfold pastV
  by_cases c : m = l.length
  ·
   have hlt := hml.1 c
   rw [if_pos hlt,if_neg,if_pos c]
   intro h6
   rcases Nat.lt_or_ge n (l.length - 1) with g | g
   ·
    have := hd.2.1 n (by omega);omega
   ·
    have : n = l.length - 1 := by omega
    subst this;omega
  ·
   have hlt : ¬ (rr l ((l.length - 1 : Nat) : Int)).f0 < t := fun h => c (hml.2 h)
   have hmlen := hd.1
   obtain ⟨K,hK⟩ : ∃ K,k' = m + 1 + K := ⟨k' - (m + 1),by omega⟩
   obtain ⟨K',hK'⟩ : ∃ q,K = q + 1 := ⟨K - 1,by omega⟩
   have hq := rpast_loop l hl A R hs t m hd K m 0 (by omega)
   rw [show ((0 : Nat) : Int) = 0 from rfl] at hq
   rw [if_neg hlt,hK,hq,hK',arrearsref10_PastDue.j2]
   unfold arrearsref10_before.f
   have hb := before_loop l hl hs m hmlen m K' 0 (by omega) (by omega)
   rw [pre_zero] at hb
   rw [show arrearsref10_before.l0 K' l (m : Int) 0 0 = some (pre l m) from hb]
   simp only [Option.bind_some]
   rw [paid_is]
   simp only [Option.bind_some]
   have pm0 := hs.pre0 (i:=m) hmlen
   have pmM := hs.preM (i:=m) hmlen
   rw [pl_w64 (x:=pre l m - app A) (by omega) (by omega)]
   by_cases c2 : t ≤ (rr l (n : Int)).f0
   ·
    have hmn : m ≤ n := by
     rcases Nat.lt_or_ge n m with g | g
     ·
      have := hd.2.1 n g;omega
     ·
      exact g
    have := hs.mono' hmn (by omega)
    have := hf.2.1
    rw [if_pos c2]
    by_cases c3 : pre l m - app A < 0
    ·
     rw [if_pos c3]
    ·
     rw [if_neg c3,if_neg (by omega)];congr 1;omega
   ·
    have hmn : n + 1 ≤ m := by
     rcases Nat.lt_or_ge n m with g | g
     ·
      omega
     ·
      exfalso
      have h6 := hd.2.2 (by omega)
      rcases Nat.lt_or_ge m n with g2 | g2
      ·
       have := hs.due_mono g2 hn;omega
      ·
       have : m = n := by omega
       subst this;omega
    have h7 := hs.mono' hmn hmlen
    have h8 : app A < pre l (n + 1) := by rcases hf.2.2 with h9 | h9 <;> omega
    rw [if_neg c2,if_neg c,if_neg (by omega)]
    unfold mn
    by_cases c3 : pre l m - app A > R
    ·
     rw [if_pos c3,if_pos (by omega)]
    ·
     rw [if_neg c3,if_neg (by omega)]
omit hw hl hA hk in
theorem late_down (hs : Snd l) {i j : Nat} (h : i ≤ j) (hj : j < l.length) (t : Int) : lateD l j t ≤ lateD l i t := by
 rcases Nat.eq_or_lt_of_le h with e | e
 ·
  subst e;exact Int.le_refl _
 ·
  have := hs.due_mono e hj
  unfold lateD
  split <;> split <;> omega
omit hw hA hk in
theorem rmissed_loop (hs : Snd l) (t g : Int) (ht : t ≤ 9223372036854775807) : ∀ (d k i : Nat) (acc : List Int),i + d = l.length → d < k → acc.length ≤ i →
  arrearsref10_Missed.l0 k t (mx g 0) l acc (i : Int) = some (acc ++ miss l t g i d) := by
 intro d
 induction d with
 | zero =>
  intro k i acc hi hk ha
  obtain ⟨k,rfl⟩ : ∃ m,k = m + 1 := ⟨k - 1,by omega⟩
  rw [arrearsref10_Missed.l0,if_neg (by omega)];simp [miss]
 | succ d ih =>
  intro k i acc hi hk ha
  obtain ⟨k,rfl⟩ : ∃ m,k = m + 1 := ⟨k - 1,by omega⟩
  have hp := (late_pair l hs i (by omega) t ht ((rr l (i : Int)).f3)).2
  unfold rr at hp
  rw [arrearsref10_Missed.l0,if_pos (by omega),if_pos (by omega),hp,Option.bind_some,pl_w64 (x:=(i : Int) + 1) (by omega) (by omega),show (i : Int) + 1 = ((i + 1 : Nat) : Int) by omega]
  have ih1 := ih k (i + 1) acc (by omega) (by omega) (by omega)
  have ih2 := ih k (i + 1) (acc ++ [(i : Int)]) (by omega) (by omega) (by rw [List.length_append,List.length_singleton];omega)
  have hz : lateD l i t ≤ mx g 0 → miss l t g (i + 1) d = [] := by
   intro hle
   cases d with
   | zero => rfl
   | succ d =>
    have := late_down l hs (Nat.le_succ i) (by omega) t
    simp only [miss]
    rw [if_pos (Int.le_trans this hle)]
  rw [ih1,ih2]
  show (if (rr l (i : Int)).f3 = true then _ else _) = _
  simp only [miss]
  by_cases c : lateD l i t ≤ mx g 0
  ·
   rw [if_pos c,hz c,if_neg (show ¬ lateD l i t > mx g 0 by omega),ite_self]
  ·
   rw [if_neg c,if_pos (show lateD l i t > mx g 0 by omega)]
   by_cases m : (rr l (i : Int)).f3 = true
   ·
    rw [if_pos m,if_pos m]
   ·
    rw [if_neg m,if_neg m,if_pos (by omega)];simp
theorem missed_same (t g : Int) (ht : t ≤ 9223372036854775807) : ∃ q,aging_Missed.f k l A R t g = some q ∧ arrearsref10_Missed.f k l A R t g = some q ∧ q.length ≤ 400 := by
 obtain ⟨k',hk'⟩ : ∃ m,k = m + 1 := ⟨k - 1,by omega⟩
 have hg : ∀ (F : Int → Option (List Int)),(if g < 0 then F 0 else F g) = F (mx g 0) := by
  intro F;unfold mx;split <;> rfl
 rcases old_same l hw hl A R hA k hk with ⟨h1,h2,h⟩ | ⟨n,h1,h2,hsd,hrw,hs,hR,h3,h4,hf⟩
 ·
  refine ⟨[],?_,?_,by simp⟩
  ·
   unfold aging_Missed.f;rw [h1];rfl
  ·
   unfold arrearsref10_Missed.f
   have hz : ∀ x : List Row,(R ≤ 0 ∨ x = []) → arrearsref10_satisfied.f k x A R = some (x.length : Int) := by
    intro x hx
    rcases hx with c | c
    ·
     unfold arrearsref10_satisfied.f;rw [if_pos c]
    ·
     subst c;rw [sat_nil A R k (by omega)];rfl
   have hy : ∀ x : List Row,(R ≤ 0 ∨ x = []) → (if g < 0 then ((arrearsref10_satisfied.f k x A R).bind fun s => arrearsref10_Missed.l0 k t 0 x [] s) else ((arrearsref10_satisfied.f k x A R).bind fun s => arrearsref10_Missed.l0 k t g x [] s)) = some [] := by
    intro x hx
    rw [hz x hx,hg (fun z => (some (x.length : Int)).bind fun s => arrearsref10_Missed.l0 k t z x [] s),Option.bind_some,hk',arrearsref10_Missed.l0,if_neg (by omega)]
   rcases h with ⟨_,h⟩ | ⟨_,h,_,_,c⟩
   ·
    rw [h,Option.bind_some];exact hy [] (.inr rfl)
   ·
    rw [h,Option.bind_some];exact hy l c
 ·
  have hn := hf.1
  refine ⟨miss l t g n (l.length - n),?_,?_,?_⟩
  ·
   unfold aging_Missed.f
   rw [h1,Option.bind_some,if_pos rfl]
   have := missed_loop l hs hl t g ht (l.length - n) k n [] (by omega) (by omega) (by simp)
   simpa using this
  ·
   unfold arrearsref10_Missed.f
   rw [hrw,Option.bind_some,h3,hg (fun z => (some (n : Int)).bind fun s => arrearsref10_Missed.l0 k t z l [] s),Option.bind_some]
   have := rmissed_loop l hl hs t g ht (l.length - n) k n [] (by omega) (by omega) (by simp)
   simpa using this
  ·
   have := miss_len l t g (l.length - n) n;omega
end
/-! marks -/
theorem rmark_l1 (l : List Row) (is : List Int) (hi : is.length ≤ 400) (acc : List Row) (ha : acc.length ≤ 400) (i : Nat) (hl : i ≤ 400) (f0 f1 f2 : Int) (K : Nat) : ∀ (d j : Nat) (fl : Bool),j + d = is.length →
  arrearsref10_Mark.l1 (d + 1 + K) l is acc (i : Int) (j : Int) f0 f1 f2 fl = arrearsref10_Mark.l0 K l is (acc ++ [⟨f0,f1,f2,fl || decide ((i : Int) ∈ is.drop j)⟩]) ((i + 1 : Nat) : Int) := by
 intro d
 induction d with
 | zero =>
  intro j fl h
  obtain rfl : j = is.length := by omega
  rw [show 0 + 1 + K = K + 1 by omega,arrearsref10_Mark.l1,if_neg (by omega),if_pos (by omega),pl_w64 (x:=(i : Int) + 1) (by omega) (by omega),List.drop_length]
  simp
 | succ d ih =>
  intro j fl h
  have hj : j < is.length := by omega
  have er : rd is (j : Int) = is[j] := by unfold rd;simp [hj]
  rw [show d + 1 + 1 + K = (d + 1 + K) + 1 by omega,arrearsref10_Mark.l1,if_pos (by omega),if_pos (by omega),er,pl_w64 (x:=(j : Int) + 1) (by omega) (by omega),show (j : Int) + 1 = ((j + 1 : Nat) : Int) by omega,ih (j + 1) true (by omega),ih (j + 1) fl (by omega),List.drop_eq_getElem_cons hj]
  by_cases c : is[j] = (i : Int)
  ·
   rw [if_pos c];simp [c]
  ·
   rw [if_neg c]
   have : ((i : Int) ∈ is[j] :: is.drop (j + 1)) ↔ ((i : Int) ∈ is.drop (j + 1)) := by
    rw [List.mem_cons];exact ⟨fun h => h.elim (fun e => absurd e.symm c) id, .inr⟩
   simp only [this]
theorem rmark_l0 (l : List Row) (hl : l.length ≤ 400) (is : List Int) (hi : is.length ≤ 400) (m : Nat) : ∀ (d i : Nat),i + d = l.length →
  arrearsref10_Mark.l0 (d * (is.length + 2) + 1 + m) l is ((aging_Mark.markAll l is).take i) (i : Int) = some (aging_Mark.markAll l is) := by
 have hal := all_len is l
 intro d
 induction d with
 | zero =>
  intro i h
  obtain rfl : i = l.length := by omega
  rw [show 0 * (is.length + 2) + 1 + m = m + 1 by omega,arrearsref10_Mark.l0,if_neg (by omega),List.take_of_length_le (by omega)]
 | succ d ih =>
  intro i h
  have hil : i < (aging_Mark.markAll l is).length := by omega
  have hat := all_at is l i (by omega)
  rw [rr_at _ i hil] at hat
  have e1 : ∀ F0 F1 F2 F3,F0 = (rr l (i : Int)).f0 → F1 = (rr l (i : Int)).f1 → F2 = (rr l (i : Int)).f2 → F3 = (rr l (i : Int)).f3 →
    arrearsref10_Mark.l1 (is.length + 1 + (d * (is.length + 2) + 1 + m)) l is ((aging_Mark.markAll l is).take i) (i : Int) 0 F0 F1 F2 F3 = some (aging_Mark.markAll l is) := by
   intro F0 F1 F2 F3 g0 g1 g2 g3
   have := rmark_l1 l is hi ((aging_Mark.markAll l is).take i) (by rw [List.length_take];omega) i (by omega) F0 F1 F2 (d * (is.length + 2) + 1 + m) is.length 0 F3 (by omega)
   refine this.trans ?_
   rw [List.drop_zero,g0,g1,g2,g3, ← hat, ← List.take_succ_eq_append_getElem hil]
   exact ih (i + 1) (by omega)
  rw [show (d + 1) * (is.length + 2) + 1 + m = (is.length + 1 + (d * (is.length + 2) + 1 + m)) + 1 by rw [Nat.succ_mul];omega,arrearsref10_Mark.l0,if_pos (by omega),if_pos (by omega)]
  exact e1 _ _ _ _ rfl rfl rfl rfl
theorem rmark_is (l : List Row) (hl : l.length ≤ 400) (is : List Int) (hi : is.length ≤ 400) (k : Nat) (hk : 200000 < k) : arrearsref10_Mark.f k l is = some (aging_Mark.markAll l is) := by
 have hb : l.length * (is.length + 2) ≤ 400 * 402 := Nat.mul_le_mul hl (by omega)
 obtain ⟨m,rfl⟩ : ∃ m,k = l.length * (is.length + 2) + 1 + m := ⟨k - (l.length * (is.length + 2) + 1),by omega⟩
 unfold arrearsref10_Mark.f
 have := rmark_l0 l hl is hi m l.length 0 (by omega)
 rw [List.take_zero] at this
 exact this
theorem pmark_is (l : List Row) (hl : l.length ≤ 400) (is : List Int) : aging_Mark.f l is = some (aging_Mark.markAll l is) := by
 unfold aging_Mark.f;rw [if_pos (by omega)]
theorem sameRows_loop (l : List Int) (hl : l.length ≤ 400) (d : Nat) : ∀ (k i : Nat),i + d = l.length → d < k → arrearslaw10_sameRows.l0 k l l (i : Int) = some true := by
 induction d with
 | zero =>
  intro k i hi hk
  obtain ⟨k,rfl⟩ : ∃ m,k = m + 1 := ⟨k - 1,by omega⟩
  rw [arrearslaw10_sameRows.l0,if_neg (by omega)]
 | succ d ih =>
  intro k i hi hk
  obtain ⟨k,rfl⟩ : ∃ m,k = m + 1 := ⟨k - 1,by omega⟩
  rw [arrearslaw10_sameRows.l0,if_pos (by omega),if_pos (by omega),if_pos (by omega),if_pos rfl,pl_w64 (x:=(i : Int) + 1) (by omega) (by omega),show (i : Int) + 1 = ((i + 1 : Nat) : Int) by omega]
  exact ih k (i + 1) (by omega) (by omega)
theorem sameRows_self (l : List Int) (hl : l.length ≤ 400) (k : Nat) (hk : 1000 < k) : arrearslaw10_sameRows.f k l l = some true := by
 unfold arrearslaw10_sameRows.f
 rw [if_pos rfl]
 exact sameRows_loop l hl l.length k 0 (by omega) (by omega)
end Go.Proofs.Ytncfoaglmggdhaa.Y
