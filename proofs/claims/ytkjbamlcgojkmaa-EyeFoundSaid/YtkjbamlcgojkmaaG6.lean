/- The reference's chain, Chain and Kin. Distances in a graph of few points, and how a search that goes by breadth finds them. Plain. A queue of integers: taken from the front, appended to at the end. How far a piece is from another: the search by breadth, in a map. Chain. Kin: who can be reached. Plain; lists of lists. Kin. How far, whoever finds it; the reference's table of matches. The reference's steps, layer by layer. Plain. The reference's Steps. The reference's chain: the first shortest way. -/
import Derived.Test.YtkjbamlcgojkmaaG4
import Derived.Test.YtkjbamlcgojkmaaG5
set_option linter.unusedSimpArgs false
set_option linter.unusedVariables false
namespace Go.Ab.Try
def Wk (n : Nat) (M : Nat → Nat → Bool) : Nat → Nat → Nat → Prop
  | 0, p, q => p = q
  | k + 1, p, q => ∃ r, r < n ∧ Wk n M k p r ∧ M r q = true
theorem Wk.pre {n : Nat} {M : Nat → Nat → Bool} {p r : Nat} (hp : p < n) (hm : M p r = true) : ∀ {k q}, Wk n M k r q → Wk n M (k + 1) p q
  | 0, q, h => ⟨p, hp, rfl, by have : r = q := h; rw [← this]; exact hm⟩
  | k + 1, q, ⟨x, hx, h1, h2⟩ => ⟨x, hx, Wk.pre hp hm h1, h2⟩
def lk (p : Nat) : List (Nat × Nat) → Option Nat
  | [] => none
  | e :: l => if p = e.1 then some e.2 else lk p l
theorem nodup_le : ∀ (n : Nat) (l : List Nat), l.Nodup → (∀ x ∈ l, x < n) → l.length ≤ n
  | 0, l, _, h => by
    cases l with
    | nil => exact Nat.le_refl _
    | cons a l => have := h a (List.mem_cons_self ..); omega
  | n + 1, l, hn, h => by
    have h1 := nodup_le n (l.erase n) (hn.erase n) fun x hx => by
      have h2 := h x (List.mem_of_mem_erase hx)
      have h3 : x ≠ n := fun e => by subst e; exact (hn.not_mem_erase) hx
      omega
    have h2 := List.length_erase_le (a := n) (l := l)
    by_cases hm : n ∈ l
    · rw [List.length_erase_of_mem hm] at h1; omega
    · rw [List.erase_of_not_mem hm] at h1; omega
end Go.Ab.Try
set_option linter.unusedSimpArgs false
set_option linter.unusedVariables false
namespace Go.Ab
noncomputable def slcFrom (h : H) (sz : Nat) (x k : V) : Option V := q_slc .nil h sz x (some (.c k)) none none
theorem q_slc_from (tm : T V) (h : H) (sz : Nat) (x : V) (y : Opd) : q_slc tm h sz x (some y) none none = slcFrom h sz x (y.ev tm) := rfl
namespace Try
theorem map_flat (l : List Int) : (l.map encI).flatten = l.map iv := by
  induction l with
  | nil => rfl
  | cons a l ih => simp only [List.map_cons, List.flatten_cons, ih, encI]; rfl
end Try
end Go.Ab
set_option linter.unusedSimpArgs false
set_option linter.unusedVariables false
namespace Go.Ab.Try
def MM (t : Tb) (q p : Nat) : Bool := matchB t p q
theorem MM_comm {t : Tb} (g : Good t) (p q : Nat) : MM t p q = MM t q p := by
  unfold MM matchB
  cases hp : t.pieces[p]? with
  | none => cases hq : t.pieces[q]? <;> rfl
  | some a =>
    cases hq : t.pieces[q]? with
    | none => rfl
    | some b => exact alike_comm g b a
end Go.Ab.Try
set_option linter.unusedSimpArgs false
set_option linter.unusedVariables false
namespace Go.Ab.Try
end Go.Ab.Try
set_option linter.unusedSimpArgs false
set_option linter.unusedVariables false
namespace Go.Ab
namespace Try
noncomputable def rch (t : Tb) (p q : Nat) : Bool := @decide (∃ k, Wk t.pieces.length (MM t) k p q) (Classical.propDecidable _)
theorem Wk.trans {n : Nat} {M : Nat → Nat → Bool} {p q : Nat} : ∀ {k j r}, Wk n M j p q → Wk n M k q r → ∃ i, Wk n M i p r
  | 0, j, r, h1, h2 => ⟨j, by rw [← (show q = r from h2)]; exact h1⟩
  | k + 1, j, r, h1, ⟨x, hx, h2, h3⟩ => by
    obtain ⟨i, h4⟩ := Wk.trans h1 h2
    exact ⟨i + 1, x, hx, h4, h3⟩
noncomputable def before (t : Tb) (c : Nat) : Bool := (List.range c).any fun p => rch t p c
end Try
end Go.Ab
set_option linter.unusedSimpArgs false
set_option linter.unusedVariables false
namespace Go.Ab.Try
theorem indexInt_ev {l : List Int} {h : H} {x : V} (hw : h.wf) (hx : SlAt h x 1 (l.map encI)) (e : Int) :
    E (.fn 110 [] []) [x, .int .i64 e] h fun v h' => v = .int .i64 (fidx (fun r => decide (e = r)) l 0) ∧ h.Sub h' := by
  have hb := hx.boundE
  refine Ev_body (fd := c110) rfl rfl rfl ?_
  simp -implicitDefEqProofs (maxSteps := 999999) (disch := first | with_reducible rfl | omega | (simp only [nA, nS, nD] <;> omega) | fail) only [c110, go_sem, hx.lenE]
  refine W_count l.length (fun i s => ∃ tm h', s = ⟨tm, h', []⟩ ∧ h.Sub h' ∧ (Opd.t 0).ev tm = x ∧ (Opd.t 1).ev tm = .int .i64 e ∧ (Opd.t 7).ev tm = .int .i64 (l.length : Int) ∧ (Opd.t 8).ev tm = .int .i64 (i : Int) ∧ fidx (fun r => decide (e = r)) l 0 = fidx (fun r => decide (e = r)) (l.drop i) i)
    ?_ ?_ (i := 0) (Nat.zero_le _) ⟨_, _, rfl, H.Sub.refl hw, (by simp [ev_c, ev_put] <;> rfl), (by simp [ev_c, ev_put] <;> rfl), (by simp [ev_c, ev_put] <;> rfl), (by simp [ev_c, ev_put] <;> rfl), rfl⟩
  · rintro i s hi ⟨tm, h', rfl, hs, e0, e1, e7, e8, e9⟩
    have hi' : (i : Int) < (l.length : Int) := by omega
    obtain ⟨b, o, c, cs, rfl, hc, hq, hg, hn, hn0⟩ := (hx.mono hs).at hi
    have hv := hn0 (by omega)
    simp only [encI] at hv
    simp -implicitDefEqProofs (maxSteps := 999999) (disch := first | with_reducible rfl | omega | (simp only [nA, nS, nD] <;> omega) | fail) only [go_sem, e0, e1, e7, e8, hi', hq (nat_cst i), hc, hv]
    by_cases hpr : e = l[i]
    · have hd : decide (e = l[i]) = true := decide_eq_true hpr
      simp -implicitDefEqProofs (maxSteps := 999999) (disch := first | with_reducible rfl | omega | (simp only [nA, nS, nD] <;> omega) | fail) only [go_sem, e0, e1, e7, e8, hd, hpr]
      exact ⟨by first | rw [e9, fidx_hit hi hd] | (rw [← hpr]; rw [e9, fidx_hit hi hd]), hs⟩
    · have hd : decide (e = l[i]) = false := decide_eq_false hpr
      simp -implicitDefEqProofs (maxSteps := 999999) (disch := first | with_reducible rfl | omega | (simp only [nA, nS, nD] <;> omega) | fail) only [go_sem, e0, e1, e7, e8, hd, hpr, wr_succ]
      exact ⟨_, _, rfl, hs, (by simp [ev_c, ev_put, e0] <;> rfl), (by simp [ev_c, ev_put, e1] <;> rfl), (by simp [ev_c, ev_put, e7] <;> rfl), (by simp [ev_c, ev_put] <;> rfl), by rw [e9, fidx_miss hi hd]⟩
  · rintro s ⟨tm, h', rfl, hs, e0, e1, e7, e8, e9⟩
    simp -implicitDefEqProofs (maxSteps := 999999) (disch := first | with_reducible rfl | omega | (simp only [nA, nS, nD] <;> omega) | fail) only [go_sem, e0, e1, e7, e8, Int.lt_irrefl]
    exact ⟨by rw [e9]; simp [fidx], hs⟩
theorem hasInt_ev {l : List Int} {h : H} {x : V} (hw : h.wf) (hx : SlAt h x 1 (l.map encI)) (e : Int) (Q : V → H → Prop) (q : ∀ h', h.Sub h' → Q (.bool (l.any fun r => decide (e = r))) h') :
    Ev fnG fastA (.fn 52 [] []) [x, .int .i64 e] h Q := by
  refine Ev_body (fd := c52) rfl rfl rfl ?_
  simp -implicitDefEqProofs (maxSteps := 999999) (disch := first | with_reducible rfl | omega | (simp only [nA, nS, nD] <;> omega) | fail) only [c52, go_sem]
  refine (indexInt_ev hw hx e).mono fun v h' hv => ?_
  obtain ⟨rfl, hs⟩ := hv
  simp -implicitDefEqProofs (maxSteps := 999999) (disch := first | with_reducible rfl | omega | (simp only [nA, nS, nD] <;> omega) | fail) only [go_sem]
  rw [fidx_any]
  exact q _ hs
end Go.Ab.Try
set_option linter.unusedSimpArgs false
set_option linter.unusedVariables false
namespace Go.Ab
namespace Try
end Try
end Go.Ab
set_option linter.unusedSimpArgs false
set_option linter.unusedVariables false
namespace Go.Ab
namespace Try
section
variable {t : Tb} {s : Nat} {f : Nat → Int} {d p q : Nat}
end
end Try
end Go.Ab
set_option linter.unusedSimpArgs false
set_option linter.unusedVariables false
namespace Go.Ab.Try
end Go.Ab.Try
set_option linter.unusedSimpArgs false
set_option linter.unusedVariables false
namespace Go.Ab.Try
theorem some_first {α : Type} {g : Nat → Option α} {p : Nat} {l : α} (h : g p = some l) (hno : ∀ q, q < p → g q = none) : ∀ n, p < n → (List.range n).findSome? g = some l
  | 0, h' => by omega
  | n + 1, h' => by
    rw [List.range_succ, List.findSome?_append]
    by_cases e : p = n
    · subst e
      have : (List.range p).findSome? g = none := List.findSome?_eq_none_iff.2 fun x hx => hno x (List.mem_range.1 hx)
      rw [this]; simp [h]
    · rw [some_first h hno n (by omega)]; rfl
theorem none_all {α : Type} {g : Nat → Option α} {n : Nat} (hno : ∀ q, q < n → g q = none) : (List.range n).findSome? g = none := List.findSome?_eq_none_iff.2 fun x hx => hno x (List.mem_range.1 hx)
end Go.Ab.Try
set_option linter.unusedSimpArgs false
set_option linter.unusedVariables false
namespace Go.Ab.Try
end Go.Ab.Try
