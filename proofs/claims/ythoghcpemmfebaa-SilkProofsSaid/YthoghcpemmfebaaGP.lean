/- The shortest lists, and of these the first, for which something holds: plain Lean. Bounds that are made as narrow as they can be, by passes: plain Lean. How much of a forest is of a kind: plain Lean. -/
import Derived.Test.YthoghcpemmfebaaPa1
set_option linter.unusedVariables false
namespace Go.Ab.Silk
def narrow (b : Box) (i lo hi : Int) : Box := fun k => if k = i then (max (b i).1 lo, min (b i).2 hi) else b k
theorem narrow_same (b : Box) (i lo hi : Int) : narrow b i lo hi i = (max (b i).1 lo, min (b i).2 hi) := by simp [narrow]
theorem narrow_ne (b : Box) {i k : Int} (lo hi : Int) (h : k ≠ i) : narrow b i lo hi k = b k := by simp [narrow, h]
def downs (bf : Box) (i lo hi : Int) : List Int → Box → Box
  | [], b => b
  | p :: l, b => downs bf i lo hi l (narrow b p ((b i).1 - (hi - (bf p).2)) ((b i).2 - (lo - (bf p).1)))
def lotStep (parts : Int → List Int) (bf b : Box) (i : Int) : Option Box :=
  if (b i).2 < (b i).1 then none
  else if parts i = [] then some b
  else some (downs bf i (sumL (lo1 b) (parts i)) (sumL (hi1 b) (parts i)) (parts i) (narrow b i (sumL (lo1 b) (parts i)) (sumL (hi1 b) (parts i))))
def Nrw (b c : Box) : Prop := ∀ i, (b i).1 ≤ (c i).1 ∧ (c i).2 ≤ (b i).2
theorem Nrw.refl (b : Box) : Nrw b b := fun i => ⟨Int.le_refl _, Int.le_refl _⟩
theorem Nrw.trans {a b c : Box} (h : Nrw a b) (k : Nrw b c) : Nrw a c := fun i => by have := h i; have := k i; omega
section
variable {n : Nat} {frm : Int → Int} {parts : Int → List Int}
theorem downs_out (bf : Box) (i lo hi : Int) : ∀ (l : List Int) (b : Box) (k : Int), k ∉ l → downs bf i lo hi l b k = b k
  | [], b, k, _ => rfl
  | p :: l, b, k, h => by
    rw [List.mem_cons, not_or] at h
    simp only [downs]
    rw [downs_out bf i lo hi l _ k h.2, narrow_ne _ _ _ h.1]
theorem lotStep_out {bf b c : Box} {i k : Int} (h : lotStep parts bf b i = some c) (hk : k ≠ i) (hp : k ∉ parts i) : c k = b k := by
  unfold lotStep at h
  split at h
  · cases h
  · split at h
    · cases h; rfl
    · cases h; rw [downs_out _ _ _ _ _ _ _ hp, narrow_ne _ _ _ hk]
def Fresh (n : Nat) (frm : Int → Int) (bf b : Box) (i : Int) : Prop := ∀ p : Int, 0 ≤ p → p < n → i ≤ frm p → b p = bf p
theorem Fresh.step (F : Forest n frm parts) {bf b c : Box} {i : Int} (i0 : 0 ≤ i) (h : lotStep parts bf b i = some c) (f : Fresh n frm bf b i) : Fresh n frm bf c (i + 1) := fun p p0 p1 hp => by
  have hlt := F.lt p p0 p1
  rw [lotStep_out h (by omega) (fun hm => by have := ((F.mem _ _).1 hm).2.2; omega)]
  exact f p p0 p1 (by omega)
theorem Fresh.at (F : Forest n frm parts) {bf b : Box} {i : Int} (f : Fresh n frm bf b i) : ∀ p ∈ parts i, b p = bf p := fun p hp => by
  obtain ⟨p0, p1, pf⟩ := (F.mem _ _).1 hp
  exact f p p0 p1 (by omega)
structure Tight (n : Nat) (parts : Int → List Int) (b : Box) : Prop where
  ne : ∀ i : Int, 0 ≤ i → i < n → (b i).1 ≤ (b i).2
  node : ∀ i : Int, 0 ≤ i → i < n → parts i ≠ [] → sumL (lo1 b) (parts i) ≤ (b i).1 ∧ (b i).2 ≤ sumL (hi1 b) (parts i)
  part : ∀ i : Int, 0 ≤ i → i < n → ∀ p ∈ parts i, (b i).1 - (sumL (hi1 b) (parts i) - (b p).2) ≤ (b p).1 ∧ (b p).2 ≤ (b i).2 - (sumL (lo1 b) (parts i) - (b p).1)
def room (n : Nat) (b : Box) : Int := match n with | 0 => 0 | k + 1 => room k b + ((b k).2 - (b k).1)
end
end Go.Ab.Silk
set_option linter.unusedVariables false
namespace Go.Ab.Silk
def shF (parts : Int → List Int) (b : Box) (ch : Int → Bool) : Nat → Int → Int × Int
  | 0, _ => (0, 0)
  | k + 1, i => if parts i = [] then (if ch i then ((b i).1, 0) else (0, (b i).2))
    else (max (sumL (fun p => (shF parts b ch k p).1) (parts i)) ((b i).1 - sumL (fun p => (shF parts b ch k p).2) (parts i)),
      min (sumL (fun p => (shF parts b ch k p).2) (parts i)) ((b i).2 - sumL (fun p => (shF parts b ch k p).1) (parts i)))
section
variable {n : Nat} {frm : Int → Int} {parts : Int → List Int}
def sh (n : Nat) (parts : Int → List Int) (b : Box) (ch : Int → Bool) : Box := shF parts b ch n
def csF (parts : Int → List Int) (ch : Int → Bool) (w : Int → Int) : Nat → Int → Int
  | 0, _ => 0
  | k + 1, i => if parts i = [] then (if ch i then w i else 0) else sumL (csF parts ch w k) (parts i)
def cs (n : Nat) (parts : Int → List Int) (ch : Int → Bool) (w : Int → Int) : Int → Int := csF parts ch w n
theorem up_ind (F : Forest n frm parts) {P : Int → Prop} (step : ∀ i : Int, 0 ≤ i → i < n → (∀ p ∈ parts i, P p) → P i) : ∀ i : Int, 0 ≤ i → i < n → P i := by
  have : ∀ (k : Nat) (i : Int), (n : Int) - i ≤ k → 0 ≤ i → i < n → P i := by
    intro k
    induction k with
    | zero => intro i h1 h2 h3; omega
    | succ k ih =>
      intro i hk i0 i1
      refine step i i0 i1 fun p hp => ?_
      obtain ⟨p0, p1, pf⟩ := (F.mem _ _).1 hp
      have := F.lt p p0 p1
      exact ih p (by omega) p0 p1
  exact fun i i0 i1 => this n i (by omega) i0 i1
end
end Go.Ab.Silk
set_option linter.unusedVariables false
namespace Go.Ab.Silk
def lexlt : List Int → List Int → Bool
  | a :: l, b :: r => if a = b then lexlt l r else decide (a < b)
  | _, _ => false
def before (a b : List Int) : Bool := if a.length = b.length then lexlt a b else decide (a.length < b.length)
end Go.Ab.Silk
