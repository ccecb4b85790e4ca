/- How much of a forest is of a kind: plain Lean. Bounds that are made as narrow as they can be, by passes: plain Lean. -/
import Derived.Test.YthoghcpemmfebaaPa1
set_option linter.unusedVariables false
namespace Go.Ab.Silk
def narrow (b : Box) (i lo hi : Int) : Box := fun k => if k = i then (max (b i).1 lo, min (b i).2 hi) else b k
theorem narrow_same (b : Box) (i lo hi : Int) : narrow b i lo hi i = (max (b i).1 lo, min (b i).2 hi) := by simp [narrow]
theorem narrow_ne (b : Box) {i k : Int} (lo hi : Int) (h : k ≠ i) : narrow b i lo hi k = b k := by simp [narrow, h]
def downs (bf : Box) (i lo hi : Int) : List Int → Box → Box
  | [], b => b
  | p :: l, b => downs bf i lo hi l (narrow b p ((b i).1 - (hi - (bf p).2)) ((b i).2 - (lo - (bf p).1)))
def lotStep (parts : Int → List Int) (bf b : Box) (i : Int) : Option Box :=
  if (b i).2 < (b i).1 then none
  else if parts i = [] then some b
  else some (downs bf i (sumL (lo1 b) (parts i)) (sumL (hi1 b) (parts i)) (parts i) (narrow b i (sumL (lo1 b) (parts i)) (sumL (hi1 b) (parts i))))
def passF (parts : Int → List Int) (bf : Box) : Nat → Int → Box → Option Box
  | 0, _, b => some b
  | k + 1, i, b => match lotStep parts bf b i with
    | none => none
    | some b' => passF parts bf k (i + 1) b'
def Nrw (b c : Box) : Prop := ∀ i, (b i).1 ≤ (c i).1 ∧ (c i).2 ≤ (b i).2
theorem Nrw.refl (b : Box) : Nrw b b := fun i => ⟨Int.le_refl _, Int.le_refl _⟩
theorem Nrw.trans {a b c : Box} (h : Nrw a b) (k : Nrw b c) : Nrw a c := fun i => by have := h i; have := k i; omega
theorem narrow_nrw (b : Box) (i lo hi : Int) : Nrw b (narrow b i lo hi) := fun k => by
  by_cases h : k = i
  · subst h; rw [narrow_same]; simp only; omega
  · rw [narrow_ne b _ _ h]; omega
theorem downs_nrw (bf : Box) (i lo hi : Int) : ∀ (l : List Int) (b : Box), Nrw b (downs bf i lo hi l b)
  | [], b => Nrw.refl b
  | p :: l, b => (narrow_nrw b p _ _).trans (downs_nrw bf i lo hi l _)
theorem lotStep_nrw {parts : Int → List Int} {bf b c : Box} {i : Int} (h : lotStep parts bf b i = some c) : Nrw b c := by
  unfold lotStep at h
  split at h
  · cases h
  · split at h
    · cases h; exact Nrw.refl b
    · cases h; exact (narrow_nrw b i _ _).trans (downs_nrw _ _ _ _ _ _)
theorem passF_nrw {parts : Int → List Int} {bf : Box} : ∀ (k : Nat) (i : Int) {b c : Box}, passF parts bf k i b = some c → Nrw b c
  | 0, _, b, c, h => by cases h; exact Nrw.refl b
  | k + 1, i, b, c, h => by
    simp only [passF] at h
    cases h1 : lotStep parts bf b i with
    | none => rw [h1] at h; cases h
    | some d => rw [h1] at h; exact (lotStep_nrw h1).trans (passF_nrw k _ h)
section
variable {n : Nat} {frm : Int → Int} {parts : Int → List Int}
theorem downs_out (bf : Box) (i lo hi : Int) : ∀ (l : List Int) (b : Box) (k : Int), k ∉ l → downs bf i lo hi l b k = b k
  | [], b, k, _ => rfl
  | p :: l, b, k, h => by
    rw [List.mem_cons, not_or] at h
    simp only [downs]
    rw [downs_out bf i lo hi l _ k h.2, narrow_ne _ _ _ h.1]
theorem lotStep_out {bf b c : Box} {i k : Int} (h : lotStep parts bf b i = some c) (hk : k ≠ i) (hp : k ∉ parts i) : c k = b k := by
  unfold lotStep at h
  split at h
  · cases h
  · split at h
    · cases h; rfl
    · cases h; rw [downs_out _ _ _ _ _ _ _ hp, narrow_ne _ _ _ hk]
def InB (n : Nat) (b : Box) (w : Int → Int) : Prop := ∀ i : Int, 0 ≤ i → i < n → (b i).1 ≤ w i ∧ w i ≤ (b i).2
def Adds (n : Nat) (parts : Int → List Int) (w : Int → Int) : Prop := ∀ i : Int, 0 ≤ i → i < n → parts i ≠ [] → w i = sumL w (parts i)
theorem downs_in (F : Forest n frm parts) {bf : Box} {w : Int → Int} (ha : Adds n parts w) (hbf : InB n bf w) {i : Int} (i0 : 0 ≤ i) (i1 : i < n) : ∀ (l : List Int) (b : Box), (∀ p ∈ l, p ∈ parts i) → InB n b w →
    InB n (downs bf i (sumL (lo1 bf) (parts i)) (sumL (hi1 bf) (parts i)) l b) w
  | [], b, _, h => h
  | p :: l, b, hl, h => by
    simp only [downs]
    have hp := hl p (by simp)
    refine downs_in F ha hbf i0 i1 l _ (fun q hq => hl q (by simp [hq])) fun k k0 k1 => ?_
    have hk := h k k0 k1
    by_cases e : k = p
    · subst e
      rw [narrow_same]
      have hi := h i i0 i1
      have hs := ha i i0 i1 (fun e => by rw [e] at hp; cases hp)
      have r1 := rest_le F (x := lo1 bf) (y := w) hp fun q hq => by
        obtain ⟨q0, q1, _⟩ := (F.mem _ _).1 hq
        exact (hbf q q0 q1).1
      have r2 := rest_le F (x := w) (y := hi1 bf) hp fun q hq => by
        obtain ⟨q0, q1, _⟩ := (F.mem _ _).1 hq
        exact (hbf q q0 q1).2
      simp only [lo1, hi1] at *; omega
    · rw [narrow_ne _ _ _ e]; exact hk
theorem lotStep_in (F : Forest n frm parts) {bf b c : Box} {w : Int → Int} {i : Int} (i0 : 0 ≤ i) (i1 : i < n) (ha : Adds n parts w) (hbf : InB n bf w) (hb : InB n b w) (he : ∀ p ∈ parts i, b p = bf p) (h : lotStep parts bf b i = some c) : InB n c w := by
  unfold lotStep at h
  split at h
  · cases h
  · split at h
    · cases h; exact hb
    · rename_i hne
      cases h
      have e1 : sumL (lo1 b) (parts i) = sumL (lo1 bf) (parts i) := sumL_congr fun p hp => by simp only [lo1, he p hp]
      have e2 : sumL (hi1 b) (parts i) = sumL (hi1 bf) (parts i) := sumL_congr fun p hp => by simp only [hi1, he p hp]
      rw [e1, e2]
      refine downs_in F ha hbf i0 i1 _ _ (fun p hp => hp) fun k k0 k1 => ?_
      have hk := hb k k0 k1
      by_cases e : k = i
      · subst e
        rw [narrow_same]
        have hs := ha k k0 k1 hne
        have m1 : sumL (lo1 bf) (parts k) ≤ sumL w (parts k) := sumL_mono fun q hq => by
          obtain ⟨q0, q1, _⟩ := (F.mem _ _).1 hq
          exact (hbf q q0 q1).1
        have m2 : sumL w (parts k) ≤ sumL (hi1 bf) (parts k) := sumL_mono fun q hq => by
          obtain ⟨q0, q1, _⟩ := (F.mem _ _).1 hq
          exact (hbf q q0 q1).2
        simp only; omega
      · rw [narrow_ne _ _ _ e]; exact hk
def Fresh (n : Nat) (frm : Int → Int) (bf b : Box) (i : Int) : Prop := ∀ p : Int, 0 ≤ p → p < n → i ≤ frm p → b p = bf p
theorem Fresh.step (F : Forest n frm parts) {bf b c : Box} {i : Int} (i0 : 0 ≤ i) (h : lotStep parts bf b i = some c) (f : Fresh n frm bf b i) : Fresh n frm bf c (i + 1) := fun p p0 p1 hp => by
  have hlt := F.lt p p0 p1
  rw [lotStep_out h (by omega) (fun hm => by have := ((F.mem _ _).1 hm).2.2; omega)]
  exact f p p0 p1 (by omega)
theorem Fresh.at (F : Forest n frm parts) {bf b : Box} {i : Int} (f : Fresh n frm bf b i) : ∀ p ∈ parts i, b p = bf p := fun p hp => by
  obtain ⟨p0, p1, pf⟩ := (F.mem _ _).1 hp
  exact f p p0 p1 (by omega)
theorem passF_in (F : Forest n frm parts) {bf : Box} {w : Int → Int} (ha : Adds n parts w) (hbf : InB n bf w) : ∀ (k : Nat) (i : Int) (b c : Box), 0 ≤ i → i + k ≤ n → InB n b w → Fresh n frm bf b i → passF parts bf k i b = some c → InB n c w
  | 0, i, b, c, _, _, hb, _, h => by cases h; exact hb
  | k + 1, i, b, c, i0, i1, hb, hf, h => by
    simp only [passF] at h
    cases h1 : lotStep parts bf b i with
    | none => rw [h1] at h; cases h
    | some d =>
      rw [h1] at h
      exact passF_in F ha hbf k (i + 1) d c (by omega) (by omega) (lotStep_in F i0 (by omega) ha hbf hb (hf.at F) h1) (hf.step F i0 h1) h
theorem passF_none (F : Forest n frm parts) {bf : Box} {w : Int → Int} (ha : Adds n parts w) (hbf : InB n bf w) : ∀ (k : Nat) (i : Int) (b : Box), 0 ≤ i → i + k ≤ n → InB n b w → Fresh n frm bf b i → passF parts bf k i b ≠ none
  | 0, i, b, _, _, hb, _, h => by cases h
  | k + 1, i, b, i0, i1, hb, hf, h => by
    simp only [passF] at h
    cases h1 : lotStep parts bf b i with
    | none =>
      unfold lotStep at h1
      have := hb i i0 (by omega)
      rw [if_neg (by omega)] at h1
      split at h1 <;> cases h1
    | some d =>
      rw [h1] at h
      exact passF_none F ha hbf k (i + 1) d (by omega) (by omega) (lotStep_in F i0 (by omega) ha hbf hb (hf.at F) h1) (hf.step F i0 h1) h
structure Tight (n : Nat) (parts : Int → List Int) (b : Box) : Prop where
  ne : ∀ i : Int, 0 ≤ i → i < n → (b i).1 ≤ (b i).2
  node : ∀ i : Int, 0 ≤ i → i < n → parts i ≠ [] → sumL (lo1 b) (parts i) ≤ (b i).1 ∧ (b i).2 ≤ sumL (hi1 b) (parts i)
  part : ∀ i : Int, 0 ≤ i → i < n → ∀ p ∈ parts i, (b i).1 - (sumL (hi1 b) (parts i) - (b p).2) ≤ (b p).1 ∧ (b p).2 ≤ (b i).2 - (sumL (lo1 b) (parts i) - (b p).1)
theorem downs_fix {bf : Box} {i lo hi : Int} : ∀ (l : List Int) (b : Box), (∀ k, downs bf i lo hi l b k = b k) → ∀ p ∈ l, (b i).1 - (hi - (bf p).2) ≤ (b p).1 ∧ (b p).2 ≤ (b i).2 - (lo - (bf p).1)
  | [], b, _, p, hp => by cases hp
  | q :: l, b, h, p, hp => by
    simp only [downs] at h
    have n1 := narrow_nrw b q ((b i).1 - (hi - (bf q).2)) ((b i).2 - (lo - (bf q).1))
    have n2 := downs_nrw bf i lo hi l (narrow b q ((b i).1 - (hi - (bf q).2)) ((b i).2 - (lo - (bf q).1)))
    have e : ∀ k, narrow b q ((b i).1 - (hi - (bf q).2)) ((b i).2 - (lo - (bf q).1)) k = b k := fun k => by
      have a1 := n1 k
      have a2 := n2 k
      rw [h k] at a2
      exact Prod.ext (by omega) (by omega)
    have e' : narrow b q ((b i).1 - (hi - (bf q).2)) ((b i).2 - (lo - (bf q).1)) = b := funext e
    rcases List.mem_cons.1 hp with rfl | hp
    · have := e p
      rw [narrow_same] at this
      have h1 := congrArg Prod.fst this
      have h2 := congrArg Prod.snd this
      simp only at h1 h2; omega
    · rw [e'] at h
      exact downs_fix l b h p hp
theorem lotStep_fix {b : Box} {i : Int} (h : lotStep parts b b i = some b) : (b i).1 ≤ (b i).2 ∧ (parts i ≠ [] → (sumL (lo1 b) (parts i) ≤ (b i).1 ∧ (b i).2 ≤ sumL (hi1 b) (parts i)) ∧
    ∀ p ∈ parts i, (b i).1 - (sumL (hi1 b) (parts i) - (b p).2) ≤ (b p).1 ∧ (b p).2 ≤ (b i).2 - (sumL (lo1 b) (parts i) - (b p).1)) := by
  unfold lotStep at h
  split at h
  · cases h
  · rename_i h0
    refine ⟨by omega, fun hne => ?_⟩
    rw [if_neg hne] at h
    have h' := Option.some.inj h
    have n1 := narrow_nrw b i (sumL (lo1 b) (parts i)) (sumL (hi1 b) (parts i))
    have n2 := downs_nrw b i (sumL (lo1 b) (parts i)) (sumL (hi1 b) (parts i)) (parts i) (narrow b i (sumL (lo1 b) (parts i)) (sumL (hi1 b) (parts i)))
    rw [h'] at n2
    have e : narrow b i (sumL (lo1 b) (parts i)) (sumL (hi1 b) (parts i)) = b := funext fun k => by
      have a1 := n1 k
      have a2 := n2 k
      exact Prod.ext (by omega) (by omega)
    rw [e] at h'
    refine ⟨?_, downs_fix (parts i) b fun k => by rw [h']⟩
    have := congrFun e i
    rw [narrow_same] at this
    have h1 := congrArg Prod.fst this
    have h2 := congrArg Prod.snd this
    simp only at h1 h2; omega
theorem passF_fix {bf : Box} : ∀ (k : Nat) (i : Int) (b c : Box), b = bf → c = bf → passF parts bf k i b = some c → ∀ j, i ≤ j → j < i + k → lotStep parts bf bf j = some bf
  | 0, i, b, c, _, _, _, j, h1, h2 => by omega
  | k + 1, i, b, c, hb, hc, h, j, h1, h2 => by
    simp only [passF] at h
    cases h3 : lotStep parts bf b i with
    | none => rw [h3] at h; cases h
    | some d =>
      rw [h3] at h
      have n1 := lotStep_nrw h3
      have n2 := passF_nrw k (i + 1) h
      have hd : d = bf := funext fun x => by
        have a1 := n1 x
        have a2 := n2 x
        rw [hb] at a1; rw [hc] at a2
        exact Prod.ext (by omega) (by omega)
      by_cases e : j = i
      · subst e; rw [hb, hd] at h3; exact h3
      · exact passF_fix k (i + 1) d c hd hc h j (by omega) (by omega)
theorem tight_of_fix {b : Box} (h : passF parts b n 0 b = some b) : Tight n parts b := by
  have hs := fun j h1 h2 => lotStep_fix (passF_fix n 0 b b rfl rfl h j h1 h2)
  exact ⟨fun i i0 i1 => (hs i i0 (by omega)).1, fun i i0 i1 hne => ((hs i i0 (by omega)).2 hne).1, fun i i0 i1 p hp => ((hs i i0 (by omega)).2 (fun e => by rw [e] at hp; cases hp)).2 p hp⟩
theorem tight_full (F : Forest n frm parts) {b : Box} (t : Tight n parts b) {j v : Int} (j0 : 0 ≤ j) (j1 : j < n) (v1 : (b j).1 ≤ v) (v2 : v ≤ (b j).2) : ∃ w, Feas n parts b w ∧ w j = v :=
  proj F b b t.ne t.node (fun i i0 i1 => ⟨Int.le_refl _, Int.le_refl _⟩) (fun i i0 i1 p hp v v1 v2 => by
    obtain ⟨p0, p1, pf⟩ := (F.mem _ _).1 hp
    have h1 := t.ne i i0 i1
    have h2 := t.part i i0 i1 p hp
    have h4 := rest_le F (x := lo1 b) (y := hi1 b) hp fun q hq => by
      obtain ⟨q0, q1, _⟩ := (F.mem _ _).1 hq
      exact t.ne q q0 q1
    refine ⟨max (b i).1 (v + (sumL (lo1 b) (parts i) - (b p).1)), ?_, ?_, ?_, ?_⟩ <;> (simp only [lo1, hi1] at *; omega)) j0 j1 v1 v2
inductive TightR (n : Nat) (parts : Int → List Int) : Box → Option Box → Prop where
  | bad {b : Box} : passF parts b n 0 b = none → TightR n parts b none
  | done {b : Box} : passF parts b n 0 b = some b → TightR n parts b (some b)
  | more {b c : Box} {r : Option Box} : passF parts b n 0 b = some c → TightR n parts c r → TightR n parts b r
theorem TightR.sound (F : Forest n frm parts) {b : Box} {r : Option Box} (h : TightR n parts b r) : ∀ w, Feas n parts b w → ∃ c, r = some c ∧ Feas n parts c w := by
  induction h with
  | bad h => exact fun w f => absurd h (passF_none F f.2 f.1 n 0 _ (by omega) (by omega) f.1 (fun _ _ _ _ => rfl))
  | done h => exact fun w f => ⟨_, rfl, f⟩
  | more h _ ih => exact fun w f => ih w ⟨passF_in F f.2 f.1 n 0 _ _ (by omega) (by omega) f.1 (fun _ _ _ _ => rfl) h, f.2⟩
theorem TightR.nrw {b c : Box} (h : TightR n parts b (some c)) : Nrw b c ∧ Tight n parts c := by
  generalize e : some c = r at h
  induction h with
  | bad h => cases e
  | done h => cases e; exact ⟨Nrw.refl _, tight_of_fix h⟩
  | more h _ ih => exact ⟨(passF_nrw _ _ h).trans (ih e).1, (ih e).2⟩
theorem TightR.exact (F : Forest n frm parts) {b c : Box} (h : TightR n parts b (some c)) : Exact n parts b c := by
  obtain ⟨h1, h2⟩ := h.nrw
  refine ⟨fun w f i i0 i1 => ?_, h2.ne, fun i v i0 i1 v1 v2 => ?_⟩
  · obtain ⟨d, e, fd⟩ := h.sound F w f
    cases e; exact fd.1 i i0 i1
  · obtain ⟨w, f, e⟩ := tight_full F h2 i0 i1 v1 v2
    exact ⟨w, f.mono fun k _ _ => h1 k, e⟩
theorem TightR.none_iff (F : Forest n frm parts) (hn : 0 < n) {b : Box} {r : Option Box} (h : TightR n parts b r) : r = none ↔ ¬ ∃ w, Feas n parts b w := by
  constructor
  · rintro rfl ⟨w, f⟩
    obtain ⟨c, e, _⟩ := h.sound F w f
    cases e
  · intro hno
    cases r with
    | none => rfl
    | some c =>
      have e := h.exact F
      obtain ⟨w, f, _⟩ := e.full 0 _ (by omega) (by omega) (Int.le_refl _) (e.ne 0 (by omega) (by omega))
      exact absurd ⟨w, f⟩ hno
def room (n : Nat) (b : Box) : Int := match n with | 0 => 0 | k + 1 => room k b + ((b k).2 - (b k).1)
theorem room_le {b c : Box} (h : Nrw b c) : ∀ n, room n c ≤ room n b
  | 0 => Int.le_refl _
  | k + 1 => by have := room_le h k; have := h k; simp only [room]; omega
theorem room_lt {b c : Box} (h : Nrw b c) : ∀ (n : Nat) (i : Int), 0 ≤ i → i < n → c i ≠ b i → room n c < room n b
  | 0, i, _, h1, _ => by omega
  | k + 1, i, i0, i1, hne => by
    have hk := h k
    have hr := room_le h k
    simp only [room]
    by_cases e : i = (k : Int)
    · subst e
      have : ¬ ((c k).1 = (b k).1 ∧ (c k).2 = (b k).2) := fun ⟨e1, e2⟩ => hne (Prod.ext e1 e2)
      omega
    · have := room_lt h k i i0 (by omega) hne; omega
theorem room_nonneg {b : Box} : ∀ (n : Nat), (∀ i : Int, 0 ≤ i → i < n → (b i).1 ≤ (b i).2) → 0 ≤ room n b
  | 0, _ => Int.le_refl _
  | k + 1, h => by
    have h1 := room_nonneg k fun i i0 i1 => h i i0 (by omega)
    have h2 := h k (by omega) (by omega)
    simp only [room]; omega
theorem passF_start {bf : Box} : ∀ (k : Nat) (i : Int) (b c : Box), passF parts bf k i b = some c → ∀ j, i ≤ j → j < i + k → (b j).1 ≤ (b j).2
  | 0, i, b, c, _, j, h1, h2 => by omega
  | k + 1, i, b, c, h, j, h1, h2 => by
    simp only [passF] at h
    cases h3 : lotStep parts bf b i with
    | none => rw [h3] at h; cases h
    | some d =>
      rw [h3] at h
      by_cases e : j = i
      · subst e
        unfold lotStep at h3
        split at h3
        · cases h3
        · omega
      · have n1 := lotStep_nrw h3 j
        have := passF_start k (i + 1) d c h j (by omega) (by omega); omega
theorem passF_out {bf : Box} (F : Forest n frm parts) : ∀ (k : Nat) (i : Int) (b c : Box), 0 ≤ i → i + k ≤ n → passF parts bf k i b = some c → ∀ j : Int, ¬ (0 ≤ j ∧ j < n) → c j = b j
  | 0, i, b, c, _, _, h, j, _ => by cases h; rfl
  | k + 1, i, b, c, i0, i1, h, j, hj => by
    simp only [passF] at h
    cases h3 : lotStep parts bf b i with
    | none => rw [h3] at h; cases h
    | some d =>
      rw [h3] at h
      rw [passF_out F k (i + 1) d c (by omega) (by omega) h j hj]
      exact lotStep_out h3 (by omega) fun hp => by have := (F.mem _ _).1 hp; omega
theorem TightR.out (F : Forest n frm parts) {b c : Box} (h : TightR n parts b (some c)) : ∀ j : Int, ¬ (0 ≤ j ∧ j < n) → c j = b j := by
  generalize e : some c = r at h
  induction h with
  | bad h => cases e
  | done h => cases e; exact fun _ _ => rfl
  | more h _ ih => intro j hj; rw [ih e j hj]; exact passF_out F n 0 _ _ (by omega) (by omega) h j hj
end
end Go.Ab.Silk
set_option linter.unusedVariables false
namespace Go.Ab.Silk
def shF (parts : Int → List Int) (b : Box) (ch : Int → Bool) : Nat → Int → Int × Int
  | 0, _ => (0, 0)
  | k + 1, i => if parts i = [] then (if ch i then ((b i).1, 0) else (0, (b i).2))
    else (max (sumL (fun p => (shF parts b ch k p).1) (parts i)) ((b i).1 - sumL (fun p => (shF parts b ch k p).2) (parts i)),
      min (sumL (fun p => (shF parts b ch k p).2) (parts i)) ((b i).2 - sumL (fun p => (shF parts b ch k p).1) (parts i)))
section
variable {n : Nat} {frm : Int → Int} {parts : Int → List Int}
theorem shF_any (F : Forest n frm parts) (b : Box) (ch : Int → Bool) : ∀ (k j : Nat) (i : Int), 0 ≤ i → i < n → (n : Int) - i ≤ k → (n : Int) - i ≤ j → shF parts b ch k i = shF parts b ch j i
  | 0, _, i, h0, h1, h, _ => by omega
  | _ + 1, 0, i, h0, h1, _, h => by omega
  | k + 1, j + 1, i, h0, h1, h2, h3 => by
    have hp : ∀ p ∈ parts i, shF parts b ch k p = shF parts b ch j p := fun p hp => by
      obtain ⟨p0, p1, pf⟩ := (F.mem _ _).1 hp
      have := F.lt p p0 p1
      exact shF_any F b ch k j p p0 p1 (by omega) (by omega)
    simp only [shF]
    rw [sumL_congr (x := fun p => (shF parts b ch k p).1) fun p h => by rw [hp p h], sumL_congr (x := fun p => (shF parts b ch k p).2) fun p h => by rw [hp p h]]
def sh (n : Nat) (parts : Int → List Int) (b : Box) (ch : Int → Bool) : Box := shF parts b ch n
theorem sh_eq (F : Forest n frm parts) (b : Box) (ch : Int → Bool) {i : Int} (i0 : 0 ≤ i) (i1 : i < n) : sh n parts b ch i =
    if parts i = [] then (if ch i then ((b i).1, 0) else (0, (b i).2)) else
    (max (sumL (lo1 (sh n parts b ch)) (parts i)) ((b i).1 - sumL (hi1 (sh n parts b ch)) (parts i)), min (sumL (hi1 (sh n parts b ch)) (parts i)) ((b i).2 - sumL (lo1 (sh n parts b ch)) (parts i))) := by
  have e : shF parts b ch n i = shF parts b ch (n + 1) i := shF_any F b ch n (n + 1) i i0 i1 (by omega) (by omega)
  unfold sh
  rw [e]; rfl
theorem sh_mid (F : Forest n frm parts) (b : Box) (ch : Int → Bool) (hne : ∀ i : Int, 0 ≤ i → i < n → (b i).1 ≤ (b i).2) {i : Int} (i0 : 0 ≤ i) (i1 : i < n) :
    (b i).1 ≤ (sh n parts b ch i).1 + (sh n parts b ch i).2 ∧ (sh n parts b ch i).1 + (sh n parts b ch i).2 ≤ (b i).2 := by
  have := hne i i0 i1
  rw [sh_eq F b ch i0 i1]
  split
  · split <;> simp only <;> omega
  · simp only; omega
def csF (parts : Int → List Int) (ch : Int → Bool) (w : Int → Int) : Nat → Int → Int
  | 0, _ => 0
  | k + 1, i => if parts i = [] then (if ch i then w i else 0) else sumL (csF parts ch w k) (parts i)
theorem csF_any (F : Forest n frm parts) (ch : Int → Bool) (w : Int → Int) : ∀ (k j : Nat) (i : Int), 0 ≤ i → i < n → (n : Int) - i ≤ k → (n : Int) - i ≤ j → csF parts ch w k i = csF parts ch w j i
  | 0, _, i, h0, h1, h, _ => by omega
  | _ + 1, 0, i, h0, h1, _, h => by omega
  | k + 1, j + 1, i, h0, h1, h2, h3 => by
    simp only [csF]
    rw [sumL_congr (x := csF parts ch w k) (y := csF parts ch w j) fun p hp => by
      obtain ⟨p0, p1, pf⟩ := (F.mem _ _).1 hp
      have := F.lt p p0 p1
      exact csF_any F ch w k j p p0 p1 (by omega) (by omega)]
def cs (n : Nat) (parts : Int → List Int) (ch : Int → Bool) (w : Int → Int) : Int → Int := csF parts ch w n
theorem cs_eq (F : Forest n frm parts) (ch : Int → Bool) (w : Int → Int) {i : Int} (i0 : 0 ≤ i) (i1 : i < n) : cs n parts ch w i = if parts i = [] then (if ch i then w i else 0) else sumL (cs n parts ch w) (parts i) := by
  have e : csF parts ch w n i = csF parts ch w (n + 1) i := csF_any F ch w n (n + 1) i i0 i1 (by omega) (by omega)
  unfold cs
  rw [e]; rfl
theorem up_ind (F : Forest n frm parts) {P : Int → Prop} (step : ∀ i : Int, 0 ≤ i → i < n → (∀ p ∈ parts i, P p) → P i) : ∀ i : Int, 0 ≤ i → i < n → P i := by
  have : ∀ (k : Nat) (i : Int), (n : Int) - i ≤ k → 0 ≤ i → i < n → P i := by
    intro k
    induction k with
    | zero => intro i h1 h2 h3; omega
    | succ k ih =>
      intro i hk i0 i1
      refine step i i0 i1 fun p hp => ?_
      obtain ⟨p0, p1, pf⟩ := (F.mem _ _).1 hp
      have := F.lt p p0 p1
      exact ih p (by omega) p0 p1
  exact fun i i0 i1 => this n i (by omega) i0 i1
theorem cs_not (F : Forest n frm parts) (ch : Int → Bool) {w : Int → Int} (ha : Adds n parts w) : ∀ i : Int, 0 ≤ i → i < n → cs n parts (fun i => !ch i) w i = w i - cs n parts ch w i := by
  refine up_ind F fun i i0 i1 ih => ?_
  rw [cs_eq F _ w i0 i1, cs_eq F ch w i0 i1]
  by_cases h : parts i = []
  · simp only [if_pos h]
    cases ch i <;> simp
  · simp only [if_neg h]
    rw [ha i i0 i1 h, ← sumL_sub]
    exact sumL_congr ih
theorem sh_sound (F : Forest n frm parts) {b : Box} (ch : Int → Bool) {w : Int → Int} (f : Feas n parts b w) : ∀ i : Int, 0 ≤ i → i < n → (sh n parts b ch i).1 ≤ cs n parts ch w i ∧ w i - cs n parts ch w i ≤ (sh n parts b ch i).2 := by
  refine up_ind F fun i i0 i1 ih => ?_
  have hb := f.1 i i0 i1
  rw [cs_eq F ch w i0 i1, sh_eq F b ch i0 i1]
  by_cases h : parts i = []
  · simp only [if_pos h]
    cases ch i <;> simp <;> omega
  · simp only [if_neg h]
    have h2 := f.2 i i0 i1 h
    have m1 : sumL (lo1 (sh n parts b ch)) (parts i) ≤ sumL (cs n parts ch w) (parts i) := sumL_mono fun p hp => (ih p hp).1
    have m2 : sumL (fun p => w p - cs n parts ch w p) (parts i) ≤ sumL (hi1 (sh n parts b ch)) (parts i) := sumL_mono fun p hp => (ih p hp).2
    rw [sumL_sub] at m2
    omega
theorem sh_full (F : Forest n frm parts) {b : Box} (ch : Int → Bool) (hne : ∀ i : Int, 0 ≤ i → i < n → (b i).1 ≤ (b i).2)
    (hnode : ∀ i : Int, 0 ≤ i → i < n → parts i ≠ [] → sumL (lo1 b) (parts i) ≤ (b i).1 ∧ (b i).2 ≤ sumL (hi1 b) (parts i))
    (root : Int → Int) (hroot : ∀ i : Int, 0 ≤ i → i < n → frm i < 0 → (b i).1 ≤ root i ∧ root i ≤ (b i).2) :
    ∃ w, Feas n parts b w ∧ (∀ i : Int, 0 ≤ i → i < n → frm i < 0 → w i = root i) ∧ ∀ i : Int, 0 ≤ i → i < n → cs n parts ch w i = max (sh n parts b ch i).1 (w i - (sh n parts b ch i).2) := by
  obtain ⟨w, w1, w2, w3⟩ := fill F (fun i x => (b i).1 ≤ x ∧ x ≤ (b i).2) (fun i v x => sumL x (parts i) = v ∧ ((∀ p ∈ parts i, x p ≤ (sh n parts b ch p).1 + (sh n parts b ch p).2) ∨ (∀ p ∈ parts i, (sh n parts b ch p).1 + (sh n parts b ch p).2 ≤ x p)))
    (fun i v i0 i1 hv hp => by
      have hn := hnode i i0 i1 hp
      have hm : ∀ p ∈ parts i, (b p).1 ≤ (sh n parts b ch p).1 + (sh n parts b ch p).2 ∧ (sh n parts b ch p).1 + (sh n parts b ch p).2 ≤ (b p).2 := fun p hp => by
        obtain ⟨p0, p1, _⟩ := (F.mem _ _).1 hp
        exact sh_mid F b ch hne p0 p1
      by_cases hc : v ≤ sumL (fun p => (sh n parts b ch p).1 + (sh n parts b ch p).2) (parts i)
      · obtain ⟨x, x1, x2⟩ := pick (parts i) (lo1 b) (fun p => (sh n parts b ch p).1 + (sh n parts b ch p).2) v (F.nodup i) (fun p hp => (hm p hp).1) (by omega) hc
        exact ⟨x, fun p hp => ⟨(x1 p hp).1, Int.le_trans (x1 p hp).2 (hm p hp).2⟩, x2, .inl fun p hp => (x1 p hp).2⟩
      · obtain ⟨x, x1, x2⟩ := pick (parts i) (fun p => (sh n parts b ch p).1 + (sh n parts b ch p).2) (hi1 b) v (F.nodup i) (fun p hp => (hm p hp).2) (by omega) (by omega)
        exact ⟨x, fun p hp => ⟨Int.le_trans (hm p hp).1 (x1 p hp).1, (x1 p hp).2⟩, x2, .inr fun p hp => (x1 p hp).1⟩)
    root hroot
  have hadd : Adds n parts w := fun i i0 i1 hp => by
    obtain ⟨x, ⟨x1, _⟩, x3⟩ := w3 i i0 i1 hp
    rw [← x1]; exact (sumL_congr x3).symm
  refine ⟨w, ⟨w1, hadd⟩, w2, up_ind F fun i i0 i1 ih => ?_⟩
  have hb := w1 i i0 i1
  rw [cs_eq F ch w i0 i1, sh_eq F b ch i0 i1]
  by_cases h : parts i = []
  · simp only [if_pos h]
    cases ch i <;> simp <;> omega
  · simp only [if_neg h]
    obtain ⟨x, ⟨x1, x2⟩, x3⟩ := w3 i i0 i1 h
    have ha := hadd i i0 i1 h
    rcases x2 with x2 | x2
    · have e : sumL (cs n parts ch w) (parts i) = sumL (lo1 (sh n parts b ch)) (parts i) := sumL_congr fun p hp => by
        rw [ih p hp]; have := x2 p hp; have := x3 p hp; simp only [lo1]; omega
      have m : sumL w (parts i) ≤ sumL (fun p => lo1 (sh n parts b ch) p + hi1 (sh n parts b ch) p) (parts i) := sumL_mono fun p hp => by
        have := x2 p hp; have := x3 p hp; simp only [lo1, hi1]; omega
      rw [sumL_add] at m
      rw [e]; omega
    · have e : sumL (cs n parts ch w) (parts i) = sumL (fun p => w p - hi1 (sh n parts b ch) p) (parts i) := sumL_congr fun p hp => by
        rw [ih p hp]; have := x2 p hp; have := x3 p hp; simp only [hi1]; omega
      have m : sumL (fun p => lo1 (sh n parts b ch) p + hi1 (sh n parts b ch) p) (parts i) ≤ sumL w (parts i) := sumL_mono fun p hp => by
        have := x2 p hp; have := x3 p hp; simp only [lo1, hi1]; omega
      rw [sumL_add] at m
      rw [sumL_sub] at e
      rw [e]; omega
theorem sh_root (F : Forest n frm parts) {b c : Box} (ch : Int → Bool) (hb1 : ∀ i : Int, 0 ≤ i → i < n → (b i).1 ≤ (b i).2)
    (hb2 : ∀ i : Int, 0 ≤ i → i < n → parts i ≠ [] → sumL (lo1 b) (parts i) ≤ (b i).1 ∧ (b i).2 ≤ sumL (hi1 b) (parts i))
    (hs : ∀ w, Feas n parts b w → Feas n parts c w) {i : Int} (i0 : 0 ≤ i) (i1 : i < n) (hf : frm i < 0) : (sh n parts c ch i).1 ≤ (sh n parts b ch i).1 ∧ (sh n parts b ch i).2 ≤ (sh n parts c ch i).2 := by
  have hm := sh_mid F b ch hb1 i0 i1
  obtain ⟨w, f, r, e⟩ := sh_full F ch hb1 hb2 (fun i => (b i).1) fun i i0 i1 _ => ⟨Int.le_refl _, hb1 i i0 i1⟩
  have h1 := (sh_sound F ch (hs w f) i i0 i1).1
  have h2 := e i i0 i1
  have h3 := r i i0 i1 hf
  obtain ⟨w', f', r', e'⟩ := sh_full F ch hb1 hb2 (fun i => (b i).2) fun i i0 i1 _ => ⟨hb1 i i0 i1, Int.le_refl _⟩
  have h1' := (sh_sound F ch (hs w' f') i i0 i1).2
  have h2' := e' i i0 i1
  have h3' := r' i i0 i1 hf
  omega
end
end Go.Ab.Silk
