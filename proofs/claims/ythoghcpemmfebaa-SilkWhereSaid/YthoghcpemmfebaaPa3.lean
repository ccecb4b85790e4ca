/- How much of a forest is of a kind: plain Lean. -/
import Derived.Test.YthoghcpemmfebaaPa2
set_option linter.unusedVariables false
namespace Go.Ab.Silk
def shF (parts : Int → List Int) (b : Box) (ch : Int → Bool) : Nat → Int → Int × Int
  | 0, _ => (0, 0)
  | k + 1, i => if parts i = [] then (if ch i then ((b i).1, 0) else (0, (b i).2))
    else (max (sumL (fun p => (shF parts b ch k p).1) (parts i)) ((b i).1 - sumL (fun p => (shF parts b ch k p).2) (parts i)),
      min (sumL (fun p => (shF parts b ch k p).2) (parts i)) ((b i).2 - sumL (fun p => (shF parts b ch k p).1) (parts i)))
section
variable {n : Nat} {frm : Int → Int} {parts : Int → List Int}
theorem shF_any (F : Forest n frm parts) (b : Box) (ch : Int → Bool) : ∀ (k j : Nat) (i : Int), 0 ≤ i → i < n → (n : Int) - i ≤ k → (n : Int) - i ≤ j → shF parts b ch k i = shF parts b ch j i
  | 0, _, i, h0, h1, h, _ => by omega
  | _ + 1, 0, i, h0, h1, _, h => by omega
  | k + 1, j + 1, i, h0, h1, h2, h3 => by
    have hp : ∀ p ∈ parts i, shF parts b ch k p = shF parts b ch j p := fun p hp => by
      obtain ⟨p0, p1, pf⟩ := (F.mem _ _).1 hp
      have := F.lt p p0 p1
      exact shF_any F b ch k j p p0 p1 (by omega) (by omega)
    simp only [shF]
    rw [sumL_congr (x := fun p => (shF parts b ch k p).1) fun p h => by rw [hp p h], sumL_congr (x := fun p => (shF parts b ch k p).2) fun p h => by rw [hp p h]]
def sh (n : Nat) (parts : Int → List Int) (b : Box) (ch : Int → Bool) : Box := shF parts b ch n
theorem sh_eq (F : Forest n frm parts) (b : Box) (ch : Int → Bool) {i : Int} (i0 : 0 ≤ i) (i1 : i < n) : sh n parts b ch i =
    if parts i = [] then (if ch i then ((b i).1, 0) else (0, (b i).2)) else
    (max (sumL (lo1 (sh n parts b ch)) (parts i)) ((b i).1 - sumL (hi1 (sh n parts b ch)) (parts i)), min (sumL (hi1 (sh n parts b ch)) (parts i)) ((b i).2 - sumL (lo1 (sh n parts b ch)) (parts i))) := by
  have e : shF parts b ch n i = shF parts b ch (n + 1) i := shF_any F b ch n (n + 1) i i0 i1 (by omega) (by omega)
  unfold sh
  rw [e]; rfl
theorem sh_mid (F : Forest n frm parts) (b : Box) (ch : Int → Bool) (hne : ∀ i : Int, 0 ≤ i → i < n → (b i).1 ≤ (b i).2) {i : Int} (i0 : 0 ≤ i) (i1 : i < n) :
    (b i).1 ≤ (sh n parts b ch i).1 + (sh n parts b ch i).2 ∧ (sh n parts b ch i).1 + (sh n parts b ch i).2 ≤ (b i).2 := by
  have := hne i i0 i1
  rw [sh_eq F b ch i0 i1]
  split
  · split <;> simp only <;> omega
  · simp only; omega
/-- What the chosen whole lots of a branch weigh, and all others. -/
def csF (parts : Int → List Int) (ch : Int → Bool) (w : Int → Int) : Nat → Int → Int
  | 0, _ => 0
  | k + 1, i => if parts i = [] then (if ch i then w i else 0) else sumL (csF parts ch w k) (parts i)
theorem csF_any (F : Forest n frm parts) (ch : Int → Bool) (w : Int → Int) : ∀ (k j : Nat) (i : Int), 0 ≤ i → i < n → (n : Int) - i ≤ k → (n : Int) - i ≤ j → csF parts ch w k i = csF parts ch w j i
  | 0, _, i, h0, h1, h, _ => by omega
  | _ + 1, 0, i, h0, h1, _, h => by omega
  | k + 1, j + 1, i, h0, h1, h2, h3 => by
    simp only [csF]
    rw [sumL_congr (x := csF parts ch w k) (y := csF parts ch w j) fun p hp => by
      obtain ⟨p0, p1, pf⟩ := (F.mem _ _).1 hp
      have := F.lt p p0 p1
      exact csF_any F ch w k j p p0 p1 (by omega) (by omega)]
def cs (n : Nat) (parts : Int → List Int) (ch : Int → Bool) (w : Int → Int) : Int → Int := csF parts ch w n
theorem cs_eq (F : Forest n frm parts) (ch : Int → Bool) (w : Int → Int) {i : Int} (i0 : 0 ≤ i) (i1 : i < n) : cs n parts ch w i = if parts i = [] then (if ch i then w i else 0) else sumL (cs n parts ch w) (parts i) := by
  have e : csF parts ch w n i = csF parts ch w (n + 1) i := csF_any F ch w n (n + 1) i i0 i1 (by omega) (by omega)
  unfold cs
  rw [e]; rfl
theorem up_ind (F : Forest n frm parts) {P : Int → Prop} (step : ∀ i : Int, 0 ≤ i → i < n → (∀ p ∈ parts i, P p) → P i) : ∀ i : Int, 0 ≤ i → i < n → P i := by
  have : ∀ (k : Nat) (i : Int), (n : Int) - i ≤ k → 0 ≤ i → i < n → P i := by
    intro k
    induction k with
    | zero => intro i h1 h2 h3; omega
    | succ k ih =>
      intro i hk i0 i1
      refine step i i0 i1 fun p hp => ?_
      obtain ⟨p0, p1, pf⟩ := (F.mem _ _).1 hp
      have := F.lt p p0 p1
      exact ih p (by omega) p0 p1
  exact fun i i0 i1 => this n i (by omega) i0 i1
theorem cs_not (F : Forest n frm parts) (ch : Int → Bool) {w : Int → Int} (ha : Adds n parts w) : ∀ i : Int, 0 ≤ i → i < n → cs n parts (fun i => !ch i) w i = w i - cs n parts ch w i := by
  refine up_ind F fun i i0 i1 ih => ?_
  rw [cs_eq F _ w i0 i1, cs_eq F ch w i0 i1]
  by_cases h : parts i = []
  · simp only [if_pos h]
    cases ch i <;> simp
  · simp only [if_neg h]
    rw [ha i i0 i1 h, ← sumL_sub]
    exact sumL_congr ih
theorem sh_sound (F : Forest n frm parts) {b : Box} (ch : Int → Bool) {w : Int → Int} (f : Feas n parts b w) : ∀ i : Int, 0 ≤ i → i < n → (sh n parts b ch i).1 ≤ cs n parts ch w i ∧ w i - cs n parts ch w i ≤ (sh n parts b ch i).2 := by
  refine up_ind F fun i i0 i1 ih => ?_
  have hb := f.1 i i0 i1
  rw [cs_eq F ch w i0 i1, sh_eq F b ch i0 i1]
  by_cases h : parts i = []
  · simp only [if_pos h]
    cases ch i <;> simp <;> omega
  · simp only [if_neg h]
    have h2 := f.2 i i0 i1 h
    have m1 : sumL (lo1 (sh n parts b ch)) (parts i) ≤ sumL (cs n parts ch w) (parts i) := sumL_mono fun p hp => (ih p hp).1
    have m2 : sumL (fun p => w p - cs n parts ch w p) (parts i) ≤ sumL (hi1 (sh n parts b ch)) (parts i) := sumL_mono fun p hp => (ih p hp).2
    rw [sumL_sub] at m2
    omega
/-- Weights of which the chosen lots have as little as can be, for each lot. -/
theorem sh_full (F : Forest n frm parts) {b : Box} (ch : Int → Bool) (hne : ∀ i : Int, 0 ≤ i → i < n → (b i).1 ≤ (b i).2)
    (hnode : ∀ i : Int, 0 ≤ i → i < n → parts i ≠ [] → sumL (lo1 b) (parts i) ≤ (b i).1 ∧ (b i).2 ≤ sumL (hi1 b) (parts i))
    (root : Int → Int) (hroot : ∀ i : Int, 0 ≤ i → i < n → frm i < 0 → (b i).1 ≤ root i ∧ root i ≤ (b i).2) :
    ∃ w, Feas n parts b w ∧ (∀ i : Int, 0 ≤ i → i < n → frm i < 0 → w i = root i) ∧ ∀ i : Int, 0 ≤ i → i < n → cs n parts ch w i = max (sh n parts b ch i).1 (w i - (sh n parts b ch i).2) := by
  obtain ⟨w, w1, w2, w3⟩ := fill F (fun i x => (b i).1 ≤ x ∧ x ≤ (b i).2) (fun i v x => sumL x (parts i) = v ∧ ((∀ p ∈ parts i, x p ≤ (sh n parts b ch p).1 + (sh n parts b ch p).2) ∨ (∀ p ∈ parts i, (sh n parts b ch p).1 + (sh n parts b ch p).2 ≤ x p)))
    (fun i v i0 i1 hv hp => by
      have hn := hnode i i0 i1 hp
      have hm : ∀ p ∈ parts i, (b p).1 ≤ (sh n parts b ch p).1 + (sh n parts b ch p).2 ∧ (sh n parts b ch p).1 + (sh n parts b ch p).2 ≤ (b p).2 := fun p hp => by
        obtain ⟨p0, p1, _⟩ := (F.mem _ _).1 hp
        exact sh_mid F b ch hne p0 p1
      by_cases hc : v ≤ sumL (fun p => (sh n parts b ch p).1 + (sh n parts b ch p).2) (parts i)
      · obtain ⟨x, x1, x2⟩ := pick (parts i) (lo1 b) (fun p => (sh n parts b ch p).1 + (sh n parts b ch p).2) v (F.nodup i) (fun p hp => (hm p hp).1) (by omega) hc
        exact ⟨x, fun p hp => ⟨(x1 p hp).1, Int.le_trans (x1 p hp).2 (hm p hp).2⟩, x2, .inl fun p hp => (x1 p hp).2⟩
      · obtain ⟨x, x1, x2⟩ := pick (parts i) (fun p => (sh n parts b ch p).1 + (sh n parts b ch p).2) (hi1 b) v (F.nodup i) (fun p hp => (hm p hp).2) (by omega) (by omega)
        exact ⟨x, fun p hp => ⟨Int.le_trans (hm p hp).1 (x1 p hp).1, (x1 p hp).2⟩, x2, .inr fun p hp => (x1 p hp).1⟩)
    root hroot
  have hadd : Adds n parts w := fun i i0 i1 hp => by
    obtain ⟨x, ⟨x1, _⟩, x3⟩ := w3 i i0 i1 hp
    rw [← x1]; exact (sumL_congr x3).symm
  refine ⟨w, ⟨w1, hadd⟩, w2, up_ind F fun i i0 i1 ih => ?_⟩
  have hb := w1 i i0 i1
  rw [cs_eq F ch w i0 i1, sh_eq F b ch i0 i1]
  by_cases h : parts i = []
  · simp only [if_pos h]
    cases ch i <;> simp <;> omega
  · simp only [if_neg h]
    obtain ⟨x, ⟨x1, x2⟩, x3⟩ := w3 i i0 i1 h
    have ha := hadd i i0 i1 h
    rcases x2 with x2 | x2
    · have e : sumL (cs n parts ch w) (parts i) = sumL (lo1 (sh n parts b ch)) (parts i) := sumL_congr fun p hp => by
        rw [ih p hp]; have := x2 p hp; have := x3 p hp; simp only [lo1]; omega
      have m : sumL w (parts i) ≤ sumL (fun p => lo1 (sh n parts b ch) p + hi1 (sh n parts b ch) p) (parts i) := sumL_mono fun p hp => by
        have := x2 p hp; have := x3 p hp; simp only [lo1, hi1]; omega
      rw [sumL_add] at m
      rw [e]; omega
    · have e : sumL (cs n parts ch w) (parts i) = sumL (fun p => w p - hi1 (sh n parts b ch) p) (parts i) := sumL_congr fun p hp => by
        rw [ih p hp]; have := x2 p hp; have := x3 p hp; simp only [hi1]; omega
      have m : sumL (fun p => lo1 (sh n parts b ch) p + hi1 (sh n parts b ch) p) (parts i) ≤ sumL w (parts i) := sumL_mono fun p hp => by
        have := x2 p hp; have := x3 p hp; simp only [lo1, hi1]; omega
      rw [sumL_add] at m
      rw [sumL_sub] at e
      rw [e]; omega
/-- Two boxes for the same weights have the same shares of lots without a From. -/
theorem sh_root (F : Forest n frm parts) {b c : Box} (ch : Int → Bool) (hb1 : ∀ i : Int, 0 ≤ i → i < n → (b i).1 ≤ (b i).2)
    (hb2 : ∀ i : Int, 0 ≤ i → i < n → parts i ≠ [] → sumL (lo1 b) (parts i) ≤ (b i).1 ∧ (b i).2 ≤ sumL (hi1 b) (parts i))
    (hs : ∀ w, Feas n parts b w → Feas n parts c w) {i : Int} (i0 : 0 ≤ i) (i1 : i < n) (hf : frm i < 0) : (sh n parts c ch i).1 ≤ (sh n parts b ch i).1 ∧ (sh n parts b ch i).2 ≤ (sh n parts c ch i).2 := by
  have hm := sh_mid F b ch hb1 i0 i1
  obtain ⟨w, f, r, e⟩ := sh_full F ch hb1 hb2 (fun i => (b i).1) fun i i0 i1 _ => ⟨Int.le_refl _, hb1 i i0 i1⟩
  have h1 := (sh_sound F ch (hs w f) i i0 i1).1
  have h2 := e i i0 i1
  have h3 := r i i0 i1 hf
  obtain ⟨w', f', r', e'⟩ := sh_full F ch hb1 hb2 (fun i => (b i).2) fun i i0 i1 _ => ⟨hb1 i i0 i1, Int.le_refl _⟩
  have h1' := (sh_sound F ch (hs w' f') i i0 i1).2
  have h2' := e' i i0 i1
  have h3' := r' i i0 i1 hf
  omega
end
end Go.Ab.Silk
