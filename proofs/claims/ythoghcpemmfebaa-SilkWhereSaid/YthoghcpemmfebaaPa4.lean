/- Sums by kind, weight by weight: closed forms. Plain Lean. -/
import Derived.Test.YthoghcpemmfebaaPa3
set_option linter.unusedVariables false
namespace Go.Ab.Silk
/-- The least that chosen lots of a branch weigh if it weighs 'n': less than 0 if that cannot be. -/
def tabL (s r lo hi n : Int) : Int := if lo ≤ n ∧ n ≤ hi then max s (n - r) else -1
/-- The greatest that all others weigh then. -/
def tabG (s r lo hi n : Int) : Int := if lo ≤ n ∧ n ≤ hi then min r (n - s) else -1
theorem tabL_neg {s r lo hi n : Int} (hs : 0 ≤ s) : tabL s r lo hi n < 0 ↔ ¬ (lo ≤ n ∧ n ≤ hi) := by
  unfold tabL
  by_cases h : lo ≤ n ∧ n ≤ hi
  · rw [if_pos h]; exact ⟨fun h' => by omega, fun h' => absurd h h'⟩
  · rw [if_neg h]; exact ⟨fun _ => h, fun _ => by omega⟩
theorem tabL_in {s r lo hi n : Int} (h : lo ≤ n ∧ n ≤ hi) : tabL s r lo hi n = max s (n - r) := by unfold tabL; rw [if_pos h]
theorem tabL_out {s r lo hi n : Int} (h : ¬ (lo ≤ n ∧ n ≤ hi)) : tabL s r lo hi n = -1 := by unfold tabL; rw [if_neg h]
theorem tabG_in {s r lo hi n : Int} (h : lo ≤ n ∧ n ≤ hi) : tabG s r lo hi n = min r (n - s) := by unfold tabG; rw [if_pos h]
theorem tabG_out {s r lo hi n : Int} (h : ¬ (lo ≤ n ∧ n ≤ hi)) : tabG s r lo hi n = -1 := by unfold tabG; rw [if_neg h]
/-- Two tables shared out: no share is below, and one attains it. -/
theorem conv_ge {s r s' r' n k : Int} : max (s + s') (n - (r + r')) ≤ max s (n - k - r) + max s' (k - r') := by omega
theorem conv_at {s r lo hi s' r' lo' hi' n : Int} (m1 : lo ≤ s + r ∧ s + r ≤ hi) (m2 : lo' ≤ s' + r' ∧ s' + r' ≤ hi') (h : lo + lo' ≤ n ∧ n ≤ hi + hi') :
    ∃ k, (lo ≤ n - k ∧ n - k ≤ hi) ∧ (lo' ≤ k ∧ k ≤ hi') ∧ max s (n - k - r) + max s' (k - r') = max (s + s') (n - (r + r')) := by
  by_cases c : n ≤ s + r + (s' + r')
  · exact ⟨max lo' (n - r - s), by omega, by omega, by omega⟩
  · exact ⟨min hi' (n - r - s), by omega, by omega, by omega⟩
/-- What a search for the least has found among the first 'k' shares. -/
def MinUpto (val : Int → Int) (ok : Int → Prop) (k x : Int) : Prop := (x = -1 ∧ ∀ j, 0 ≤ j → j < k → ¬ ok j) ∨ (0 ≤ x ∧ (∃ j, 0 ≤ j ∧ j < k ∧ ok j ∧ x = val j) ∧ ∀ j, 0 ≤ j → j < k → ok j → x ≤ val j)
theorem MinUpto.zero (val : Int → Int) (ok : Int → Prop) : MinUpto val ok 0 (-1) := .inl ⟨rfl, fun j h1 h2 => by omega⟩
theorem MinUpto.skip {val : Int → Int} {ok : Int → Prop} {k x : Int} (h : MinUpto val ok k x) (hk : ¬ ok k) : MinUpto val ok (k + 1) x := by
  rcases h with ⟨h1, h2⟩ | ⟨h0, ⟨j, j0, j1, j2, j3⟩, h2⟩
  · refine .inl ⟨h1, fun j j0 j1 => ?_⟩
    by_cases e : j = k
    · subst e; exact hk
    · exact h2 j j0 (by omega)
  · refine .inr ⟨h0, ⟨j, j0, by omega, j2, j3⟩, fun i i0 i1 hi => ?_⟩
    by_cases e : i = k
    · subst e; exact absurd hi hk
    · exact h2 i i0 (by omega) hi
theorem MinUpto.take {val : Int → Int} {ok : Int → Prop} {k x : Int} (h : MinUpto val ok k x) (k0 : 0 ≤ k) (hk : ok k) (hv : 0 ≤ val k) (hx : x < 0 ∨ val k < x) : MinUpto val ok (k + 1) (val k) := by
  refine .inr ⟨hv, ⟨k, k0, by omega, hk, rfl⟩, fun j j0 j1 hj => ?_⟩
  by_cases e : j = k
  · subst e; exact Int.le_refl _
  · rcases h with ⟨h1, h2⟩ | ⟨h0, _, h2⟩
    · exact absurd hj (h2 j j0 (by omega))
    · have := h2 j j0 (by omega) hj; omega
theorem MinUpto.leave {val : Int → Int} {ok : Int → Prop} {k x : Int} (h : MinUpto val ok k x) (hx : ¬ (x < 0 ∨ val k < x)) : MinUpto val ok (k + 1) x := by
  rcases h with ⟨h1, h2⟩ | ⟨h0, ⟨j, j0, j1, j2, j3⟩, h2⟩
  · omega
  · refine .inr ⟨h0, ⟨j, j0, by omega, j2, j3⟩, fun i i0 i1 hi => ?_⟩
    by_cases e : i = k
    · subst e; omega
    · exact h2 i i0 (by omega) hi
/-- The table of two together. -/
theorem conv_min {s r lo hi s' r' lo' hi' n x : Int} (l0 : 0 ≤ lo) (l0' : 0 ≤ lo') (m1 : lo ≤ s + r ∧ s + r ≤ hi) (m2 : lo' ≤ s' + r' ∧ s' + r' ≤ hi')
    (h : MinUpto (fun k => max s (n - k - r) + max s' (k - r')) (fun k => (lo ≤ n - k ∧ n - k ≤ hi) ∧ (lo' ≤ k ∧ k ≤ hi')) (n + 1) x) : x = tabL (s + s') (r + r') (lo + lo') (hi + hi') n := by
  by_cases c : lo + lo' ≤ n ∧ n ≤ hi + hi'
  · rw [tabL_in c]
    obtain ⟨k, k1, k2, k3⟩ := conv_at m1 m2 c
    rcases h with ⟨_, h2⟩ | ⟨_, ⟨j, _, _, _, j3⟩, h2⟩
    · exact absurd ⟨k1, k2⟩ (h2 k (by omega) (by omega))
    · have h3 := h2 k (by omega) (by omega) ⟨k1, k2⟩
      have h4 := conv_ge (s := s) (r := r) (s' := s') (r' := r') (n := n) (k := j)
      simp only at j3 h3
      omega
  · rw [tabL_out c]
    rcases h with ⟨h1, _⟩ | ⟨_, ⟨j, _, _, j2, _⟩, _⟩
    · exact h1
    · omega
/-- What a search for the greatest has found: -1 at first. -/
def MaxUpto (val : Int → Int) (ok : Int → Prop) (k x : Int) : Prop := (x = -1 ∧ ∀ j, 0 ≤ j → j < k → ¬ ok j) ∨ (0 ≤ x ∧ (∃ j, 0 ≤ j ∧ j < k ∧ ok j ∧ x = val j) ∧ ∀ j, 0 ≤ j → j < k → ok j → val j ≤ x)
theorem MaxUpto.zero (val : Int → Int) (ok : Int → Prop) : MaxUpto val ok 0 (-1) := .inl ⟨rfl, fun j h1 h2 => by omega⟩
theorem MaxUpto.skip {val : Int → Int} {ok : Int → Prop} {k x : Int} (h : MaxUpto val ok k x) (hk : ¬ ok k) : MaxUpto val ok (k + 1) x := by
  rcases h with ⟨h1, h2⟩ | ⟨h0, ⟨j, j0, j1, j2, j3⟩, h2⟩
  · refine .inl ⟨h1, fun j j0 j1 => ?_⟩
    by_cases e : j = k
    · subst e; exact hk
    · exact h2 j j0 (by omega)
  · refine .inr ⟨h0, ⟨j, j0, by omega, j2, j3⟩, fun i i0 i1 hi => ?_⟩
    by_cases e : i = k
    · subst e; exact absurd hi hk
    · exact h2 i i0 (by omega) hi
theorem MaxUpto.take {val : Int → Int} {ok : Int → Prop} {k x : Int} (h : MaxUpto val ok k x) (k0 : 0 ≤ k) (hk : ok k) (hv : 0 ≤ val k) : MaxUpto val ok (k + 1) (max x (val k)) := by
  rcases h with ⟨rfl, h2⟩ | ⟨h0, ⟨j, j0, j1, j2, j3⟩, h2⟩
  · refine .inr ⟨by omega, ⟨k, k0, by omega, hk, by omega⟩, fun j j0 j1 hj => ?_⟩
    by_cases e : j = k
    · subst e; omega
    · exact absurd hj (h2 j j0 (by omega))
  · refine .inr ⟨by omega, ?_, fun i i0 i1 hi => ?_⟩
    · by_cases c : x ≤ val k
      · exact ⟨k, k0, by omega, hk, by omega⟩
      · exact ⟨j, j0, by omega, j2, by omega⟩
    · by_cases e : i = k
      · subst e; omega
      · have := h2 i i0 (by omega) hi; omega
theorem conv_max {s r lo hi s' r' lo' hi' n x : Int} (l0 : 0 ≤ lo) (l0' : 0 ≤ lo') (m1 : lo ≤ s + r ∧ s + r ≤ hi) (m2 : lo' ≤ s' + r' ∧ s' + r' ≤ hi')
    (h : MaxUpto (fun k => min r (n - k - s) + min r' (k - s')) (fun k => (lo ≤ n - k ∧ n - k ≤ hi) ∧ (lo' ≤ k ∧ k ≤ hi')) (n + 1) x) : x = tabG (s + s') (r + r') (lo + lo') (hi + hi') n := by
  by_cases c : lo + lo' ≤ n ∧ n ≤ hi + hi'
  · rw [tabG_in c]
    obtain ⟨k, k1, k2, k3⟩ := conv_at m1 m2 c
    rcases h with ⟨_, h2⟩ | ⟨_, ⟨j, _, _, _, j3⟩, h2⟩
    · exact absurd ⟨k1, k2⟩ (h2 k (by omega) (by omega))
    · have h3 := h2 k (by omega) (by omega) ⟨k1, k2⟩
      have h4 := conv_ge (s := s) (r := r) (s' := s') (r' := r') (n := n) (k := j)
      simp only at j3 h3
      omega
  · rw [tabG_out c]
    rcases h with ⟨h1, _⟩ | ⟨_, ⟨j, _, _, j2, _⟩, _⟩
    · exact h1
    · omega
/-- The table of a lot that is cut to its own bounds. -/
theorem cut_L {s r lo hi a b n : Int} (m : lo ≤ s + r ∧ s + r ≤ hi) (h : max a lo ≤ n ∧ n ≤ min b hi) : max (max s (max a lo - r)) (n - min r (min b hi - s)) = max s (n - r) := by omega
theorem cut_G {s r lo hi a b n : Int} (m : lo ≤ s + r ∧ s + r ≤ hi) (h : max a lo ≤ n ∧ n ≤ min b hi) : min (min r (min b hi - s)) (n - max s (max a lo - r)) = min r (n - s) := by omega
end Go.Ab.Silk
