/- Forests of lots, and weights between bounds: plain Lean, no program in sight. -/
set_option linter.unusedVariables false
namespace Go.Ab.Silk
def sumL (x : Int → Int) : List Int → Int
  | [] => 0
  | p :: l => x p + sumL x l
def up1 (x : Int → Int) (i v : Int) : Int → Int := fun k => if k = i then v else x k
theorem up1_same (x : Int → Int) (i v : Int) : up1 x i v i = v := by simp [up1]
theorem up1_ne (x : Int → Int) {i k : Int} (v : Int) (h : k ≠ i) : up1 x i v k = x k := by simp [up1, h]
theorem sumL_congr {x y : Int → Int} : ∀ {l : List Int}, (∀ p ∈ l, x p = y p) → sumL x l = sumL y l
  | [], _ => rfl
  | p :: l, h => by
    simp only [sumL]
    rw [h p (by simp), sumL_congr fun q hq => h q (by simp [hq])]
theorem sumL_mono {x y : Int → Int} : ∀ {l : List Int}, (∀ p ∈ l, x p ≤ y p) → sumL x l ≤ sumL y l
  | [], _ => Int.le_refl _
  | p :: l, h => by
    have h1 := h p (by simp)
    have h2 := sumL_mono (l := l) fun q hq => h q (by simp [hq])
    simp only [sumL]; omega
theorem sumL_up1_out {x : Int → Int} {i v : Int} {l : List Int} (h : i ∉ l) : sumL (up1 x i v) l = sumL x l :=
  sumL_congr fun p hp => up1_ne x v fun e => h (e ▸ hp)
theorem sumL_up1 {x : Int → Int} {i v : Int} : ∀ {l : List Int}, l.Nodup → i ∈ l → sumL (up1 x i v) l = sumL x l - x i + v
  | [], _, h => by simp at h
  | p :: l, hn, h => by
    rw [List.nodup_cons] at hn
    simp only [sumL]
    by_cases e : i = p
    · subst e
      rw [sumL_up1_out hn.1, up1_same]; omega
    · have h2 : i ∈ l := by
        rcases List.mem_cons.1 h with h | h
        · exact absurd h e
        · exact h
      rw [sumL_up1 hn.2 h2, up1_ne x v (fun e' => e e'.symm)]; omega
theorem sumL_nonneg {x : Int → Int} {l : List Int} (h : ∀ p ∈ l, 0 ≤ x p) : 0 ≤ sumL x l := by
  induction l with
  | nil => exact Int.le_refl _
  | cons p l ih =>
    have := h p (by simp)
    have := ih fun q hq => h q (by simp [hq])
    simp only [sumL]; omega
theorem sumL_add (x y : Int → Int) (l : List Int) : sumL (fun i => x i + y i) l = sumL x l + sumL y l := by
  induction l with
  | nil => rfl
  | cons p l ih => simp only [sumL, ih]; omega
theorem sumL_sub (x y : Int → Int) (l : List Int) : sumL (fun i => x i - y i) l = sumL x l - sumL y l := by
  induction l with
  | nil => rfl
  | cons p l ih => simp only [sumL, ih]; omega
theorem sumL_append (x : Int → Int) (l r : List Int) : sumL x (l ++ r) = sumL x l + sumL x r := by
  induction l with
  | nil => simp [sumL]
  | cons p l ih => simp only [List.cons_append, sumL, ih]; omega
/-- Numbers between bounds with a given sum. -/
theorem pick : ∀ (ps : List Int) (lo hi : Int → Int) (v : Int), ps.Nodup → (∀ p ∈ ps, lo p ≤ hi p) → sumL lo ps ≤ v → v ≤ sumL hi ps →
    ∃ x : Int → Int, (∀ p ∈ ps, lo p ≤ x p ∧ x p ≤ hi p) ∧ sumL x ps = v
  | [], _, _, v, _, _, h1, h2 => ⟨fun _ => 0, by simp, by simp only [sumL] at *; omega⟩
  | p :: l, lo, hi, v, hn, hb, h1, h2 => by
    rw [List.nodup_cons] at hn
    have hp := hb p (by simp)
    have hm := sumL_mono (l := l) fun q hq => hb q (by simp [hq])
    simp only [sumL] at h1 h2
    obtain ⟨x, h3, h4⟩ := pick l lo hi (v - max (lo p) (v - sumL hi l)) hn.2 (fun q hq => hb q (by simp [hq])) (by omega) (by omega)
    refine ⟨up1 x p (max (lo p) (v - sumL hi l)), fun q hq => ?_, ?_⟩
    · by_cases e : q = p
      · subst e; rw [up1_same]; omega
      · rw [up1_ne x _ e]
        refine h3 q ?_
        rcases List.mem_cons.1 hq with h | h
        · exact absurd h e
        · exact h
    · simp only [sumL]
      rw [up1_same, sumL_up1_out hn.1]; omega

/-- Lots 0 .. n-1, each from one before it, or from none; the parts of each. -/
structure Forest (n : Nat) (frm : Int → Int) (parts : Int → List Int) : Prop where
  lt : ∀ i : Int, 0 ≤ i → i < n → -1 ≤ frm i ∧ frm i < i
  mem : ∀ i p, p ∈ parts i ↔ 0 ≤ p ∧ p < n ∧ frm p = i
  nodup : ∀ i, (parts i).Nodup
section
variable {n : Nat} {frm : Int → Int} {parts : Int → List Int}

def wOf (frm : Int → Int) (f : Int → Int → Int → Int) (root : Int → Int) : Nat → Int → Int
  | 0, i => root i
  | k + 1, i => if frm i < 0 then root i else f (frm i) (wOf frm f root k (frm i)) i
theorem wOf_any (F : Forest n frm parts) (f : Int → Int → Int → Int) (root : Int → Int) : ∀ (k j : Nat) (i : Int), 0 ≤ i → i < n → i < k → i < j → wOf frm f root k i = wOf frm f root j i
  | 0, _, i, h0, _, h, _ => by omega
  | _ + 1, 0, i, h0, _, _, h => by omega
  | k + 1, j + 1, i, h0, h1, h2, h3 => by
    have hf := F.lt i h0 h1
    simp only [wOf]
    by_cases h : frm i < 0
    · simp [h]
    · simp only [h, ↓reduceIte]
      rw [wOf_any F f root k j (frm i) (by omega) (by omega) (by omega) (by omega)]
/-- Weights from the top down: 'S' says what a lot can weigh, 'A' how its weight is shared. -/
theorem fill (F : Forest n frm parts) (S : Int → Int → Prop) (A : Int → Int → (Int → Int) → Prop)
    (step : ∀ i v : Int, 0 ≤ i → i < n → S i v → parts i ≠ [] → ∃ x : Int → Int, (∀ p ∈ parts i, S p (x p)) ∧ A i v x)
    (root : Int → Int) (hroot : ∀ i : Int, 0 ≤ i → i < n → frm i < 0 → S i (root i)) :
    ∃ w : Int → Int, (∀ i : Int, 0 ≤ i → i < n → S i (w i)) ∧ (∀ i : Int, 0 ≤ i → i < n → frm i < 0 → w i = root i) ∧
      ∀ i : Int, 0 ≤ i → i < n → parts i ≠ [] → ∃ x, A i (w i) x ∧ ∀ p ∈ parts i, w p = x p := by
  classical
  let f : Int → Int → Int → Int := fun i v => if h : ∃ x : Int → Int, (∀ p ∈ parts i, S p (x p)) ∧ A i v x then Classical.choose h else fun _ => 0
  let w : Int → Int := wOf frm f root n
  have hroot' : ∀ i : Int, 0 ≤ i → i < n → frm i < 0 → w i = root i := by
    intro i h0 h1 h
    show wOf frm f root n i = root i
    cases n with
    | zero => omega
    | succ k => simp [wOf, h]
  have hpart : ∀ i : Int, 0 ≤ i → i < n → 0 ≤ frm i → w i = f (frm i) (w (frm i)) i := by
    intro i h0 h1 h
    show wOf frm f root n i = _
    have hf := F.lt i h0 h1
    rw [wOf_any F f root n (n + 1) i h0 h1 h1 (by omega)]
    simp only [wOf]
    rw [if_neg (by omega)]
  have hS : ∀ (k : Nat) (i : Int), i < k → 0 ≤ i → i < n → S i (w i) := by
    intro k
    induction k with
    | zero => intro i h1 h2; omega
    | succ k ih =>
      intro i hk h0 h1
      have hf := F.lt i h0 h1
      by_cases h : frm i < 0
      · rw [hroot' i h0 h1 h]; exact hroot i h0 h1 h
      · have hp : i ∈ parts (frm i) := (F.mem _ _).2 ⟨h0, h1, rfl⟩
        have hx := step (frm i) (w (frm i)) (by omega) (by omega) (ih (frm i) (by omega) (by omega) (by omega)) (fun e => by rw [e] at hp; cases hp)
        rw [hpart i h0 h1 (by omega)]
        simp only [f, dif_pos hx]
        exact (Classical.choose_spec hx).1 i hp
  have hS' : ∀ i : Int, 0 ≤ i → i < n → S i (w i) := fun i h0 h1 => hS n i h1 h0 h1
  refine ⟨w, hS', hroot', fun i h0 h1 hne => ?_⟩
  have hx := step i (w i) h0 h1 (hS' i h0 h1) hne
  refine ⟨Classical.choose hx, (Classical.choose_spec hx).2, fun p hp => ?_⟩
  obtain ⟨p0, p1, pf⟩ := (F.mem _ _).1 hp
  rw [hpart p p0 p1 (by omega), pf]
  simp only [f, dif_pos hx]

abbrev Box := Int → Int × Int
/-- Weights between such bounds, that add up. -/
def Feas (n : Nat) (parts : Int → List Int) (B : Box) (w : Int → Int) : Prop :=
  (∀ i : Int, 0 ≤ i → i < n → (B i).1 ≤ w i ∧ w i ≤ (B i).2) ∧ ∀ i : Int, 0 ≤ i → i < n → parts i ≠ [] → w i = sumL w (parts i)
/-- A lot in the line of another one. -/
inductive Anc (frm : Int → Int) (j : Int) : Int → Prop where
  | self : Anc frm j j
  | up {k : Int} : Anc frm j k → 0 ≤ frm k → Anc frm j (frm k)
theorem Anc.down {j k : Int} (a : Anc frm j k) : k = j ∨ (0 ≤ frm j ∧ Anc frm (frm j) k) := by
  induction a with
  | self => exact .inl rfl
  | up _ h0 ih =>
    rcases ih with rfl | ⟨h1, h2⟩
    · exact .inr ⟨h0, .self⟩
    · exact .inr ⟨h1, .up h2 h0⟩
theorem Anc.le (F : Forest n frm parts) {j k : Int} (a : Anc frm j k) (h0 : 0 ≤ j) (h1 : j < n) : 0 ≤ k ∧ k ≤ j := by
  induction a with
  | self => exact ⟨h0, Int.le_refl _⟩
  | up _ h2 ih => have := F.lt _ ih.1 (by omega); omega
theorem Anc.one (F : Forest n frm parts) {j p q : Int} (h0 : 0 ≤ j) (h1 : j < n) (a : Anc frm j p) (b : Anc frm j q) (e : frm p = frm q) : p = q := by
  have tot : ∀ {p q}, Anc frm j p → Anc frm j q → p = q ∨ (0 ≤ frm p ∧ Anc frm (frm p) q) ∨ (0 ≤ frm q ∧ Anc frm (frm q) p) := by
    intro p q a
    induction a with
    | self =>
      intro b
      rcases b.down with h | h
      · exact .inl h.symm
      · exact .inr (.inl h)
    | up a h2 ih =>
      intro b
      rcases ih b with rfl | ⟨h3, h4⟩ | ⟨h3, h4⟩
      · exact .inr (.inr ⟨h2, .self⟩)
      · rcases h4.down with h5 | h5
        · exact .inl h5.symm
        · exact .inr (.inl h5)
      · exact .inr (.inr ⟨h3, .up h4 h2⟩)
  have hp := a.le F h0 h1
  have hq := b.le F h0 h1
  rcases tot a b with h | ⟨h2, h3⟩ | ⟨h2, h3⟩
  · exact h
  · have := F.lt p hp.1 (by omega)
    have h4 := h3.le F h2 (by omega)
    have := F.lt q hq.1 (by omega); omega
  · have := F.lt q hq.1 (by omega)
    have h4 := h3.le F h2 (by omega)
    have := F.lt p hp.1 (by omega); omega
def lo1 (U : Box) : Int → Int := fun p => (U p).1
def hi1 (U : Box) : Int → Int := fun p => (U p).2
/-- Each number between bounds is the weight of its lot in weights that fit. -/
theorem proj (F : Forest n frm parts) (U D : Box) (hU0 : ∀ i : Int, 0 ≤ i → i < n → (U i).1 ≤ (U i).2)
    (hU : ∀ i : Int, 0 ≤ i → i < n → parts i ≠ [] → sumL (lo1 U) (parts i) ≤ (U i).1 ∧ (U i).2 ≤ sumL (hi1 U) (parts i))
    (hD0 : ∀ i : Int, 0 ≤ i → i < n → (U i).1 ≤ (D i).1 ∧ (D i).2 ≤ (U i).2)
    (hD : ∀ i : Int, 0 ≤ i → i < n → ∀ p ∈ parts i, ∀ v, (D p).1 ≤ v → v ≤ (D p).2 → ∃ u, (D i).1 ≤ u ∧ u ≤ (D i).2 ∧ v + (sumL (lo1 U) (parts i) - (U p).1) ≤ u ∧ u ≤ v + (sumL (hi1 U) (parts i) - (U p).2))
    {j v : Int} (j0 : 0 ≤ j) (j1 : j < n) (v1 : (D j).1 ≤ v) (v2 : v ≤ (D j).2) : ∃ w, Feas n parts U w ∧ w j = v := by
  classical
  have chain : ∀ (k : Nat) (j v : Int), j < k → 0 ≤ j → j < n → (D j).1 ≤ v → v ≤ (D j).2 → ∃ u : Int → Int, u j = v ∧ ∀ i, Anc frm j i → ((D i).1 ≤ u i ∧ u i ≤ (D i).2) ∧
      (0 ≤ frm i → u i + (sumL (lo1 U) (parts (frm i)) - (U i).1) ≤ u (frm i) ∧ u (frm i) ≤ u i + (sumL (hi1 U) (parts (frm i)) - (U i).2)) := by
    intro k
    induction k with
    | zero => intro j v h1 h2; omega
    | succ k ih =>
      intro j v hk j0 j1 v1 v2
      have hf := F.lt j j0 j1
      by_cases h : frm j < 0
      · refine ⟨fun _ => v, rfl, fun i ha => ?_⟩
        rcases ha.down with rfl | ⟨h2, _⟩
        · exact ⟨⟨v1, v2⟩, fun h3 => by omega⟩
        · omega
      · have hp : j ∈ parts (frm j) := (F.mem _ _).2 ⟨j0, j1, rfl⟩
        obtain ⟨u0, a1, a2, a3, a4⟩ := hD (frm j) (by omega) (by omega) j hp v v1 v2
        obtain ⟨u, b1, b2⟩ := ih (frm j) u0 (by omega) (by omega) (by omega) a1 a2
        refine ⟨up1 u j v, up1_same _ _ _, fun i ha => ?_⟩
        rcases ha.down with rfl | ⟨h2, h3⟩
        · refine ⟨by rw [up1_same]; exact ⟨v1, v2⟩, fun _ => ?_⟩
          rw [up1_same, up1_ne u v (by omega), b1]; exact ⟨a3, a4⟩
        · have hl := h3.le F (by omega) (by omega)
          have hfi := F.lt i (by omega) (by omega)
          rw [up1_ne u v (by omega), up1_ne u v (by omega)]
          exact b2 i h3
  obtain ⟨u, u1, u2⟩ := chain n j v j1 j0 j1 v1 v2
  let S : Int → Int → Prop := fun i x => (Anc frm j i → x = u i) ∧ (¬ Anc frm j i → (U i).1 ≤ x ∧ x ≤ (U i).2)
  have hin : ∀ i x : Int, 0 ≤ i → i < n → S i x → (U i).1 ≤ x ∧ x ≤ (U i).2 := by
    intro i x h0 h1 hs
    by_cases ha : Anc frm j i
    · have := (u2 i ha).1
      have := hD0 i h0 h1
      have := hs.1 ha; omega
    · exact hs.2 ha
  obtain ⟨w, w1, w2, w3⟩ := fill F S (fun i v x => sumL x (parts i) = v) (fun i x i0 i1 hs hne => by
    have hxi := hin i x i0 i1 hs
    have hUi := hU i i0 i1 hne
    by_cases hc : ∃ p ∈ parts i, Anc frm j p
    · obtain ⟨p, hp, ha⟩ := hc
      obtain ⟨p0, p1, pf⟩ := (F.mem _ _).1 hp
      have hai : Anc frm j i := by rw [← pf]; exact .up ha (by omega)
      have hu := u2 p ha
      have hu2 := hu.2 (by omega)
      rw [pf] at hu2
      have hx : x = u i := hs.1 hai
      have hDp := hD0 p p0 p1
      obtain ⟨y, y1, y2⟩ := pick (parts i) (up1 (lo1 U) p (u p)) (up1 (hi1 U) p (u p)) x (F.nodup i) (fun q hq => by
          by_cases e : q = p
          · subst e; rw [up1_same, up1_same]; exact Int.le_refl _
          · obtain ⟨q0, q1, _⟩ := (F.mem _ _).1 hq
            rw [up1_ne _ _ e, up1_ne _ _ e]; exact hU0 q q0 q1)
        (by rw [sumL_up1 (F.nodup i) hp]; simp only [lo1] at *; omega) (by rw [sumL_up1 (F.nodup i) hp]; simp only [hi1] at *; omega)
      refine ⟨y, fun q hq => ?_, y2⟩
      have hy := y1 q hq
      by_cases e : q = p
      · subst e
        rw [up1_same, up1_same] at hy
        exact ⟨fun _ => by omega, fun h => absurd ha h⟩
      · rw [up1_ne _ _ e, up1_ne _ _ e] at hy
        refine ⟨fun h => ?_, fun _ => hy⟩
        obtain ⟨_, _, qf⟩ := (F.mem _ _).1 hq
        exact absurd (Anc.one F j0 j1 h ha (by rw [qf, pf])) e
    · obtain ⟨y, y1, y2⟩ := pick (parts i) (lo1 U) (hi1 U) x (F.nodup i) (fun q hq => by
          obtain ⟨q0, q1, _⟩ := (F.mem _ _).1 hq
          exact hU0 q q0 q1) (by omega) (by omega)
      exact ⟨y, fun q hq => ⟨fun h => absurd ⟨q, hq, h⟩ hc, fun _ => y1 q hq⟩, y2⟩)
    (fun i => if Anc frm j i then u i else (U i).1) (fun i i0 i1 _ => by
      by_cases ha : Anc frm j i
      · simp only [if_pos ha]; exact ⟨fun _ => rfl, fun h => absurd ha h⟩
      · simp only [if_neg ha]; exact ⟨fun h => absurd h ha, fun _ => ⟨Int.le_refl _, hU0 i i0 i1⟩⟩)
  refine ⟨w, ⟨fun i i0 i1 => hin i _ i0 i1 (w1 i i0 i1), fun i i0 i1 hne => ?_⟩, ?_⟩
  · obtain ⟨x, x1, x2⟩ := w3 i i0 i1 hne
    rw [← x1]; exact (sumL_congr x2).symm
  · rw [(w1 j j0 j1).1 .self, u1]

/-- Bounds that are just what weights can be. -/
structure Exact (n : Nat) (parts : Int → List Int) (B r : Box) : Prop where
  sound : ∀ w, Feas n parts B w → ∀ i : Int, 0 ≤ i → i < n → (r i).1 ≤ w i ∧ w i ≤ (r i).2
  ne : ∀ i : Int, 0 ≤ i → i < n → (r i).1 ≤ (r i).2
  full : ∀ i v : Int, 0 ≤ i → i < n → (r i).1 ≤ v → v ≤ (r i).2 → ∃ w, Feas n parts B w ∧ w i = v
theorem Exact.uniq {B r s : Box} (a : Exact n parts B r) (b : Exact n parts B s) {i : Int} (i0 : 0 ≤ i) (i1 : i < n) : r i = s i := by
  have h1 := a.ne i i0 i1
  have h2 := b.ne i i0 i1
  obtain ⟨w1, f1, e1⟩ := a.full i (r i).1 i0 i1 (Int.le_refl _) h1
  obtain ⟨w2, f2, e2⟩ := a.full i (r i).2 i0 i1 h1 (Int.le_refl _)
  obtain ⟨w3, f3, e3⟩ := b.full i (s i).1 i0 i1 (Int.le_refl _) h2
  obtain ⟨w4, f4, e4⟩ := b.full i (s i).2 i0 i1 h2 (Int.le_refl _)
  have g1 := b.sound w1 f1 i i0 i1
  have g2 := b.sound w2 f2 i i0 i1
  have g3 := a.sound w3 f3 i i0 i1
  have g4 := a.sound w4 f4 i i0 i1
  have : (r i).1 = (s i).1 := by omega
  have : (r i).2 = (s i).2 := by omega
  exact Prod.ext (by omega) (by omega)
theorem Exact.congr {B r s : Box} (a : Exact n parts B r) (h : ∀ i : Int, 0 ≤ i → i < n → s i = r i) : Exact n parts B s :=
  ⟨fun w f i i0 i1 => by rw [h i i0 i1]; exact a.sound w f i i0 i1, fun i i0 i1 => by rw [h i i0 i1]; exact a.ne i i0 i1,
   fun i v i0 i1 => by rw [h i i0 i1]; exact a.full i v i0 i1⟩
theorem Feas.mono {B C : Box} {w : Int → Int} (f : Feas n parts B w) (h : ∀ i : Int, 0 ≤ i → i < n → (C i).1 ≤ (B i).1 ∧ (B i).2 ≤ (C i).2) : Feas n parts C w :=
  ⟨fun i i0 i1 => by have := f.1 i i0 i1; have := h i i0 i1; omega, f.2⟩

/-! ### From the leaves up, and from the top down: the reference -/
def UF (parts : Int → List Int) (own : Box) : Nat → Int → Int × Int
  | 0, i => own i
  | k + 1, i => if parts i = [] then own i else (max (own i).1 (sumL (fun p => (UF parts own k p).1) (parts i)), min (own i).2 (sumL (fun p => (UF parts own k p).2) (parts i)))
theorem UF_any (F : Forest n frm parts) (own : Box) : ∀ (k j : Nat) (i : Int), 0 ≤ i → i < n → (n : Int) - i ≤ k → (n : Int) - i ≤ j → UF parts own k i = UF parts own j i
  | 0, _, i, h0, h1, h, _ => by omega
  | _ + 1, 0, i, h0, h1, _, h => by omega
  | k + 1, j + 1, i, h0, h1, h2, h3 => by
    have hp : ∀ p ∈ parts i, UF parts own k p = UF parts own j p := fun p hp => by
      obtain ⟨p0, p1, pf⟩ := (F.mem _ _).1 hp
      have := F.lt p p0 p1
      exact UF_any F own k j p p0 p1 (by omega) (by omega)
    simp only [UF]
    rw [sumL_congr (x := fun p => (UF parts own k p).1) fun p h => by rw [hp p h], sumL_congr (x := fun p => (UF parts own k p).2) fun p h => by rw [hp p h]]
def Uo (n : Nat) (parts : Int → List Int) (own : Box) : Box := UF parts own n
theorem Uo_eq (F : Forest n frm parts) (own : Box) {i : Int} (i0 : 0 ≤ i) (i1 : i < n) :
    Uo n parts own i = if parts i = [] then own i else (max (own i).1 (sumL (lo1 (Uo n parts own)) (parts i)), min (own i).2 (sumL (hi1 (Uo n parts own)) (parts i))) := by
  have e : UF parts own n i = UF parts own (n + 1) i := UF_any F own n (n + 1) i i0 i1 (by omega) (by omega)
  unfold Uo
  rw [e]; rfl
theorem Uo_leaf (F : Forest n frm parts) (own : Box) {i : Int} (i0 : 0 ≤ i) (i1 : i < n) (h : parts i = []) : Uo n parts own i = own i := by rw [Uo_eq F own i0 i1, if_pos h]
theorem Uo_node (F : Forest n frm parts) (own : Box) {i : Int} (i0 : 0 ≤ i) (i1 : i < n) (h : parts i ≠ []) :
    Uo n parts own i = (max (own i).1 (sumL (lo1 (Uo n parts own)) (parts i)), min (own i).2 (sumL (hi1 (Uo n parts own)) (parts i))) := by rw [Uo_eq F own i0 i1, if_neg h]
theorem Uo_own (F : Forest n frm parts) (own : Box) {i : Int} (i0 : 0 ≤ i) (i1 : i < n) : (own i).1 ≤ (Uo n parts own i).1 ∧ (Uo n parts own i).2 ≤ (own i).2 := by
  by_cases h : parts i = []
  · rw [Uo_leaf F own i0 i1 h]; omega
  · rw [Uo_node F own i0 i1 h]; simp only; omega
/-- All that fits is between the bounds from below. -/
theorem Uo_sound (F : Forest n frm parts) {own : Box} {w : Int → Int} (f : Feas n parts own w) : ∀ i : Int, 0 ≤ i → i < n → (Uo n parts own i).1 ≤ w i ∧ w i ≤ (Uo n parts own i).2 := by
  have : ∀ (k : Nat) (i : Int), (n : Int) - i ≤ k → 0 ≤ i → i < n → (Uo n parts own i).1 ≤ w i ∧ w i ≤ (Uo n parts own i).2 := by
    intro k
    induction k with
    | zero => intro i h1 h2 h3; omega
    | succ k ih =>
      intro i hk i0 i1
      have h1 := f.1 i i0 i1
      by_cases h : parts i = []
      · rw [Uo_leaf F own i0 i1 h]; exact h1
      · have h2 := f.2 i i0 i1 h
        have hp : ∀ p ∈ parts i, (Uo n parts own p).1 ≤ w p ∧ w p ≤ (Uo n parts own p).2 := fun p hp => by
          obtain ⟨p0, p1, pf⟩ := (F.mem _ _).1 hp
          have := F.lt p p0 p1
          exact ih p (by omega) p0 p1
        have h3 : sumL (lo1 (Uo n parts own)) (parts i) ≤ sumL w (parts i) := sumL_mono fun p h => (hp p h).1
        have h4 : sumL w (parts i) ≤ sumL (hi1 (Uo n parts own)) (parts i) := sumL_mono fun p h => (hp p h).2
        rw [Uo_node F own i0 i1 h]; simp only; omega
  exact fun i i0 i1 => this n i (by omega) i0 i1
def DF (frm : Int → Int) (parts : Int → List Int) (U : Box) : Nat → Int → Int × Int
  | 0, i => U i
  | k + 1, i => if frm i < 0 then U i else
    (max (U i).1 ((DF frm parts U k (frm i)).1 - (sumL (hi1 U) (parts (frm i)) - (U i).2)), min (U i).2 ((DF frm parts U k (frm i)).2 - (sumL (lo1 U) (parts (frm i)) - (U i).1)))
theorem DF_any (F : Forest n frm parts) (U : Box) : ∀ (k j : Nat) (i : Int), 0 ≤ i → i < n → i < k → i < j → DF frm parts U k i = DF frm parts U j i
  | 0, _, i, h0, h1, h, _ => by omega
  | _ + 1, 0, i, h0, h1, _, h => by omega
  | k + 1, j + 1, i, h0, h1, h2, h3 => by
    have hf := F.lt i h0 h1
    simp only [DF]
    by_cases h : frm i < 0
    · simp [h]
    · simp only [h, ↓reduceIte]
      rw [DF_any F U k j (frm i) (by omega) (by omega) (by omega) (by omega)]
def Do (n : Nat) (frm : Int → Int) (parts : Int → List Int) (U : Box) : Box := DF frm parts U n
theorem Do_eq (F : Forest n frm parts) (U : Box) {i : Int} (i0 : 0 ≤ i) (i1 : i < n) : Do n frm parts U i = if frm i < 0 then U i else
    (max (U i).1 ((Do n frm parts U (frm i)).1 - (sumL (hi1 U) (parts (frm i)) - (U i).2)), min (U i).2 ((Do n frm parts U (frm i)).2 - (sumL (lo1 U) (parts (frm i)) - (U i).1))) := by
  have e : DF frm parts U n i = DF frm parts U (n + 1) i := DF_any F U n (n + 1) i i0 i1 i1 (by omega)
  unfold Do
  rw [e]; rfl
theorem Do_in (F : Forest n frm parts) (U : Box) {i : Int} (i0 : 0 ≤ i) (i1 : i < n) : (U i).1 ≤ (Do n frm parts U i).1 ∧ (Do n frm parts U i).2 ≤ (U i).2 := by
  rw [Do_eq F U i0 i1]
  by_cases h : frm i < 0
  · rw [if_pos h]; omega
  · rw [if_neg h]; simp only; omega
/-- What the weights of other parts leave. -/
theorem rest_le (F : Forest n frm parts) {x y : Int → Int} {i p : Int} (hp : p ∈ parts i) (h : ∀ q ∈ parts i, x q ≤ y q) : sumL x (parts i) - x p ≤ sumL y (parts i) - y p := by
  have e1 := sumL_up1 (x := x) (v := 0) (F.nodup i) hp
  have e2 := sumL_up1 (x := y) (v := 0) (F.nodup i) hp
  have : sumL (up1 x p 0) (parts i) ≤ sumL (up1 y p 0) (parts i) := sumL_mono fun q hq => by
    by_cases e : q = p
    · subst e; rw [up1_same, up1_same]; exact Int.le_refl _
    · rw [up1_ne _ _ e, up1_ne _ _ e]; exact h q hq
  omega
theorem exact_ref (F : Forest n frm parts) {own : Box} (hne : ∀ i : Int, 0 ≤ i → i < n → (Uo n parts own i).1 ≤ (Uo n parts own i).2) : Exact n parts own (Do n frm parts (Uo n parts own)) := by
  have hU : ∀ i : Int, 0 ≤ i → i < n → parts i ≠ [] → sumL (lo1 (Uo n parts own)) (parts i) ≤ (Uo n parts own i).1 ∧ (Uo n parts own i).2 ≤ sumL (hi1 (Uo n parts own)) (parts i) := fun i i0 i1 h => by
    rw [Uo_node F own i0 i1 h]; simp only; omega
  have hD0 := fun (i : Int) (i0 : 0 ≤ i) (i1 : i < n) => Do_in F (Uo n parts own) i0 i1
  -- bounds from the top down are not empty
  have hDne : ∀ (k : Nat) (i : Int), i < k → 0 ≤ i → i < n → (Do n frm parts (Uo n parts own) i).1 ≤ (Do n frm parts (Uo n parts own) i).2 := by
    intro k
    induction k with
    | zero => intro i h1 h2; omega
    | succ k ih =>
      intro i hk i0 i1
      have hf := F.lt i i0 i1
      have hi := hne i i0 i1
      rw [Do_eq F _ i0 i1]
      by_cases h : frm i < 0
      · rw [if_pos h]; exact hi
      · rw [if_neg h]
        have hp : i ∈ parts (frm i) := (F.mem _ _).2 ⟨i0, i1, rfl⟩
        have hne' : parts (frm i) ≠ [] := fun e => by rw [e] at hp; cases hp
        have h1 := ih (frm i) (by omega) (by omega) (by omega)
        have h2 := hD0 (frm i) (by omega) (by omega)
        have h3 := hU (frm i) (by omega) (by omega) hne'
        have h4 := rest_le F (x := lo1 (Uo n parts own)) (y := hi1 (Uo n parts own)) hp fun q hq => by
          obtain ⟨q0, q1, _⟩ := (F.mem _ _).1 hq
          exact hne q q0 q1
        simp only [lo1, hi1] at *; omega
  refine ⟨fun w f => ?_, fun i i0 i1 => hDne n i i1 i0 i1, fun i v i0 i1 v1 v2 => ?_⟩
  · have hu := Uo_sound F f
    have : ∀ (k : Nat) (i : Int), i < k → 0 ≤ i → i < n → (Do n frm parts (Uo n parts own) i).1 ≤ w i ∧ w i ≤ (Do n frm parts (Uo n parts own) i).2 := by
      intro k
      induction k with
      | zero => intro i h1 h2; omega
      | succ k ih =>
        intro i hk i0 i1
        have hf := F.lt i i0 i1
        have h1 := hu i i0 i1
        rw [Do_eq F _ i0 i1]
        by_cases h : frm i < 0
        · rw [if_pos h]; exact h1
        · rw [if_neg h]
          have hp : i ∈ parts (frm i) := (F.mem _ _).2 ⟨i0, i1, rfl⟩
          have hne' : parts (frm i) ≠ [] := fun e => by rw [e] at hp; cases hp
          have h2 := ih (frm i) (by omega) (by omega) (by omega)
          have h3 := f.2 (frm i) (by omega) (by omega) hne'
          have h4 := rest_le F (x := lo1 (Uo n parts own)) (y := w) hp fun q hq => by
            obtain ⟨q0, q1, _⟩ := (F.mem _ _).1 hq
            exact (hu q q0 q1).1
          have h5 := rest_le F (x := w) (y := hi1 (Uo n parts own)) hp fun q hq => by
            obtain ⟨q0, q1, _⟩ := (F.mem _ _).1 hq
            exact (hu q q0 q1).2
          simp only [lo1, hi1] at *; omega
    exact fun i i0 i1 => this n i i1 i0 i1
  · obtain ⟨w, f, e⟩ := proj F (Uo n parts own) (Do n frm parts (Uo n parts own)) hne hU hD0 (fun i i0 i1 p hp v v1 v2 => by
      obtain ⟨p0, p1, pf⟩ := (F.mem _ _).1 hp
      have hlt := F.lt p p0 p1
      have hpe := Do_eq F (Uo n parts own) p0 p1
      rw [if_neg (by omega), pf] at hpe
      rw [hpe] at v1 v2
      simp only at v1 v2
      have h1 := hDne n i i1 i0 i1
      have h4 := rest_le F (x := lo1 (Uo n parts own)) (y := hi1 (Uo n parts own)) hp fun q hq => by
        obtain ⟨q0, q1, _⟩ := (F.mem _ _).1 hq
        exact hne q q0 q1
      refine ⟨max (Do n frm parts (Uo n parts own) i).1 (v + (sumL (lo1 (Uo n parts own)) (parts i) - (Uo n parts own p).1)), ?_, ?_, ?_, ?_⟩ <;> (simp only [lo1, hi1] at *; omega)) i0 i1 v1 v2
    exact ⟨w, f.mono fun i i0 i1 => Uo_own F own i0 i1, e⟩
/-- No weights fit just if the bounds from below cross somewhere. -/
theorem feas_iff (F : Forest n frm parts) (own : Box) (hn : 0 < n) : (∃ w, Feas n parts own w) ↔ ∀ i : Int, 0 ≤ i → i < n → (Uo n parts own i).1 ≤ (Uo n parts own i).2 := by
  constructor
  · rintro ⟨w, f⟩ i i0 i1
    have := Uo_sound F f i i0 i1; omega
  · intro h
    have e := exact_ref F h
    obtain ⟨w, f, _⟩ := e.full 0 _ (by omega) (by omega) (Int.le_refl _) (e.ne 0 (by omega) (by omega))
    exact ⟨w, f⟩
end
end Go.Ab.Silk
