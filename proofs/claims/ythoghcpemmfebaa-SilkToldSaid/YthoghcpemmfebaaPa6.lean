/- Shares between consistent bounds, and their tables: plain Lean. -/
import Derived.Test.YthoghcpemmfebaaPa4
set_option linter.unusedVariables false
namespace Go.Ab.Silk
/-- Bounds that leave room, for each lot and for its parts. -/
structure Con (n : Nat) (parts : Int → List Int) (b : Box) : Prop where
  nn : ∀ i : Int, 0 ≤ i → i < n → 0 ≤ (b i).1
  ne : ∀ i : Int, 0 ≤ i → i < n → (b i).1 ≤ (b i).2
  node : ∀ i : Int, 0 ≤ i → i < n → parts i ≠ [] → sumL (lo1 b) (parts i) ≤ (b i).1 ∧ (b i).2 ≤ sumL (hi1 b) (parts i)
section
variable {n : Nat} {frm : Int → Int} {parts : Int → List Int}
theorem Con.sh (F : Forest n frm parts) {b : Box} (c : Con n parts b) (ch : Int → Bool) : ∀ i : Int, 0 ≤ i → i < n →
    0 ≤ (sh n parts b ch i).1 ∧ (sh n parts b ch i).1 ≤ (b i).1 ∧ 0 ≤ (sh n parts b ch i).2 ∧ (sh n parts b ch i).2 ≤ (b i).2 := by
  refine up_ind F fun i i0 i1 ih => ?_
  have h1 := c.nn i i0 i1
  have h2 := c.ne i i0 i1
  rw [sh_eq F b ch i0 i1]
  by_cases h : parts i = []
  · simp only [if_pos h]
    cases ch i <;> simp <;> omega
  · simp only [if_neg h]
    have h3 := c.node i i0 i1 h
    have a1 : 0 ≤ sumL (lo1 (Silk.sh n parts b ch)) (parts i) := sumL_nonneg fun p hp => (ih p hp).1
    have a2 : sumL (lo1 (Silk.sh n parts b ch)) (parts i) ≤ sumL (lo1 b) (parts i) := sumL_mono fun p hp => (ih p hp).2.1
    have a3 : 0 ≤ sumL (hi1 (Silk.sh n parts b ch)) (parts i) := sumL_nonneg fun p hp => (ih p hp).2.2.1
    omega
theorem sh_root_eq (F : Forest n frm parts) {b c : Box} (ch : Int → Bool) (hb : Con n parts b) (hc : Con n parts c) (hs : ∀ w, Feas n parts b w ↔ Feas n parts c w) {i : Int} (i0 : 0 ≤ i) (i1 : i < n) (hf : frm i < 0) :
    sh n parts b ch i = sh n parts c ch i := by
  have h1 := sh_root F ch hb.ne hb.node (fun w h => (hs w).1 h) i0 i1 hf
  have h2 := sh_root F ch hc.ne hc.node (fun w h => (hs w).2 h) i0 i1 hf
  exact Prod.ext (by omega) (by omega)
/-- Four numbers of which a table is made. -/
structure Quad (s r lo hi : Int) : Prop where
  s0 : 0 ≤ s
  sl : s ≤ lo
  r0 : 0 ≤ r
  m1 : lo ≤ s + r
  m2 : s + r ≤ hi
theorem Quad.add {s r lo hi s' r' lo' hi' : Int} (a : Quad s r lo hi) (b : Quad s' r' lo' hi') : Quad (s + s') (r + r') (lo + lo') (hi + hi') := by
  obtain ⟨a1, a2, a3, a4, a5⟩ := a
  obtain ⟨b1, b2, b3, b4, b5⟩ := b
  exact ⟨by omega, by omega, by omega, by omega, by omega⟩
theorem Quad.zero : Quad 0 0 0 0 := ⟨by omega, by omega, by omega, by omega, by omega⟩
theorem Con.quad (F : Forest n frm parts) {b : Box} (c : Con n parts b) (ch : Int → Bool) {i : Int} (i0 : 0 ≤ i) (i1 : i < n) : Quad (Silk.sh n parts b ch i).1 (Silk.sh n parts b ch i).2 (b i).1 (b i).2 := by
  have h1 := c.sh F ch i i0 i1
  have h2 := sh_mid F b ch c.ne i0 i1
  exact ⟨h1.1, h1.2.1, h1.2.2.1, h2.1, h2.2⟩
end
end Go.Ab.Silk
