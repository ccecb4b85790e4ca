/- Made: a table that is wound off. Kin: who can be reached. Plain; lists of lists. Kin. How far, whoever finds it; the reference's table of matches. The reference's steps, layer by layer. Plain. The reference's Steps. Add: a table with one more piece. The reference's chain: the first shortest way. The reference's chain, Chain and Kin. Numbers that are wound off bytes: the contracts of Spool. Shades that are wound off; what tells two shades apart, as the law has it. -/
import Derived.Test.YtkjbamlcgojkmaaGreatG2
import Derived.Test.YtkjbamlcgojkmaaGreatAc7
import Derived.Test.YtkjbamlcgojkmaaGreatG4
set_option linter.unusedSimpArgs false
set_option linter.unusedVariables false
namespace Go.Ab
namespace Tryz
noncomputable def rch (t : Tb) (p q : Nat) : Bool := @decide (∃ k, Wk t.pieces.length (MM t) k p q) (Classical.propDecidable _)
theorem Wk.trans {n : Nat} {M : Nat → Nat → Bool} {p q : Nat} : ∀ {k j r}, Wk n M j p q → Wk n M k q r → ∃ i, Wk n M i p r
  | 0, j, r, h1, h2 => ⟨j, by rw [← (show q = r from h2)]; exact h1⟩
  | k + 1, j, r, h1, ⟨x, hx, h2, h3⟩ => by
    obtain ⟨i, h4⟩ := Wk.trans h1 h2
    exact ⟨i + 1, x, hx, h4, h3⟩
noncomputable def before (t : Tb) (c : Nat) : Bool := (List.range c).any fun p => rch t p c
end Tryz
end Go.Ab
set_option linter.unusedSimpArgs false
set_option linter.unusedVariables false
namespace Go.Ab.Tryz
theorem indexInt_ev {l : List Int} {h : H} {x : V} (hw : h.wf) (hx : SlAt h x 1 (l.map encI)) (e : Int) :
    E (.fn 111 [] []) [x, .int .i64 e] h fun v h' => v = .int .i64 (fidx (fun r => decide (e = r)) l 0) ∧ h.Sub h' := by
  have hb := hx.boundE
  refine Ev_body (fd := c111) rfl rfl rfl ?_
  simp -implicitDefEqProofs (maxSteps := 999999) (disch := first | with_reducible rfl | omega | (simp only [nA, nS, nD] <;> omega) | fail) only [c111, go_sem, hx.lenE]
  refine W_count l.length (fun i s => ∃ tm h', s = ⟨tm, h', []⟩ ∧ h.Sub h' ∧ (Opd.t 0).ev tm = x ∧ (Opd.t 1).ev tm = .int .i64 e ∧ (Opd.t 7).ev tm = .int .i64 (l.length : Int) ∧ (Opd.t 8).ev tm = .int .i64 (i : Int) ∧ fidx (fun r => decide (e = r)) l 0 = fidx (fun r => decide (e = r)) (l.drop i) i)
    ?_ ?_ (i := 0) (Nat.zero_le _) ⟨_, _, rfl, H.Sub.refl hw, (by simp [ev_c, ev_put] <;> rfl), (by simp [ev_c, ev_put] <;> rfl), (by simp [ev_c, ev_put] <;> rfl), (by simp [ev_c, ev_put] <;> rfl), rfl⟩
  · rintro i s hi ⟨tm, h', rfl, hs, e0, e1, e7, e8, e9⟩
    have hi' : (i : Int) < (l.length : Int) := by omega
    obtain ⟨b, o, c, cs, rfl, hc, hq, hg, hn, hn0⟩ := (hx.mono hs).at hi
    have hv := hn0 (by omega)
    simp only [encI] at hv
    simp -implicitDefEqProofs (maxSteps := 999999) (disch := first | with_reducible rfl | omega | (simp only [nA, nS, nD] <;> omega) | fail) only [go_sem, e0, e1, e7, e8, hi', hq (nat_cst i), hc, hv]
    by_cases hpr : e = l[i]
    · have hd : decide (e = l[i]) = true := decide_eq_true hpr
      simp -implicitDefEqProofs (maxSteps := 999999) (disch := first | with_reducible rfl | omega | (simp only [nA, nS, nD] <;> omega) | fail) only [go_sem, e0, e1, e7, e8, hd, hpr]
      exact ⟨by first | rw [e9, fidx_hit hi hd] | (rw [← hpr]; rw [e9, fidx_hit hi hd]), hs⟩
    · have hd : decide (e = l[i]) = false := decide_eq_false hpr
      simp -implicitDefEqProofs (maxSteps := 999999) (disch := first | with_reducible rfl | omega | (simp only [nA, nS, nD] <;> omega) | fail) only [go_sem, e0, e1, e7, e8, hd, hpr, wr_succ]
      exact ⟨_, _, rfl, hs, (by simp [ev_c, ev_put, e0] <;> rfl), (by simp [ev_c, ev_put, e1] <;> rfl), (by simp [ev_c, ev_put, e7] <;> rfl), (by simp [ev_c, ev_put] <;> rfl), by rw [e9, fidx_miss hi hd]⟩
  · rintro s ⟨tm, h', rfl, hs, e0, e1, e7, e8, e9⟩
    simp -implicitDefEqProofs (maxSteps := 999999) (disch := first | with_reducible rfl | omega | (simp only [nA, nS, nD] <;> omega) | fail) only [go_sem, e0, e1, e7, e8, Int.lt_irrefl]
    exact ⟨by rw [e9]; simp [fidx], hs⟩
theorem hasInt_ev {l : List Int} {h : H} {x : V} (hw : h.wf) (hx : SlAt h x 1 (l.map encI)) (e : Int) (Q : V → H → Prop) (q : ∀ h', h.Sub h' → Q (.bool (l.any fun r => decide (e = r))) h') :
    Ev fnG fastA (.fn 42 [] []) [x, .int .i64 e] h Q := by
  refine Ev_body (fd := c42) rfl rfl rfl ?_
  simp -implicitDefEqProofs (maxSteps := 999999) (disch := first | with_reducible rfl | omega | (simp only [nA, nS, nD] <;> omega) | fail) only [c42, go_sem]
  refine (indexInt_ev hw hx e).mono fun v h' hv => ?_
  obtain ⟨rfl, hs⟩ := hv
  simp -implicitDefEqProofs (maxSteps := 999999) (disch := first | with_reducible rfl | omega | (simp only [nA, nS, nD] <;> omega) | fail) only [go_sem]
  rw [fidx_any]
  exact q _ hs
end Go.Ab.Tryz
set_option linter.unusedSimpArgs false
set_option linter.unusedVariables false
namespace Go.Ab
namespace Tryz
end Tryz
end Go.Ab
set_option linter.unusedSimpArgs false
set_option linter.unusedVariables false
namespace Go.Ab
namespace Tryz
section
variable {t : Tb} {s : Nat} {f : Nat → Int} {d p q : Nat}
end
end Tryz
end Go.Ab
set_option linter.unusedSimpArgs false
set_option linter.unusedVariables false
namespace Go.Ab.Tryz
end Go.Ab.Tryz
set_option linter.unusedSimpArgs false
set_option linter.unusedVariables false
namespace Go.Ab
theorem clone_core {h : H} {x : V} {sz by_ : Nat} {rows : List (List V)} {Q : V → H → Prop} (hw : h.wf) (hx : SlAt h x sz rows) (hl : rows.length * by_ ≤ 1000000000) (hl2 : rows.length ≤ 1000000000) (q : ∀ v h', OwnC h h' v sz rows → Q v h') :
    P2 (e_app' (h.add (.cells .rw [])) sz by_ (.sl h.next 0 0 (.fix 0)) x) Q := by
  have s1 : h.Sub (h.add (.cells .rw [])) := (H.Sub.refl hw).add _
  have hx1 := (hx.mono s1).elems
  rw [e_app_eq, hx1.1, hx1.2]
  simp only [ob_some]
  cases hn : rows.length with
  | zero =>
    have e : rows = [] := List.length_eq_zero_iff.1 hn
    rw [e_app_fix0]
    have : Nat.ble 0 0 = true := rfl
    rw [this, og_true, P2_some]
    exact q _ _ (by rw [e]; exact ⟨s1, by simp, .inr (.inr ⟨h.next, 0, [], rfl, Nat.le_refl _, by rw [H.next_add]; omega, get_add_new rfl, by simp, Nat.le_refl _⟩)⟩)
  | succ k =>
    rw [e_app_full (by omega) (elems_0 _ _ _ _ _) (by rw [hn] at hl; simp only [Nat.zero_add]; omega) (by omega), grown_eq, P2_some]
    exact q _ _ ⟨s1.add _, hx.1, .inr (.inl ⟨(h.add (.cells .rw [])).next, by rw [hn, Nat.zero_add], by rw [H.next_add]; omega, by simp only [H.next_add]; omega, by rw [get_add_new rfl]; rfl⟩)⟩
namespace Tryz
theorem nblk (b : Nat) : ¬ blkOf .nils b := fun ⟨_, _, _, e⟩ => by cases e
end Tryz
end Go.Ab
set_option linter.unusedSimpArgs false
set_option linter.unusedVariables false
namespace Go.Ab.Tryz
theorem some_first {α : Type} {g : Nat → Option α} {p : Nat} {l : α} (h : g p = some l) (hno : ∀ q, q < p → g q = none) : ∀ n, p < n → (List.range n).findSome? g = some l
  | 0, h' => by omega
  | n + 1, h' => by
    rw [List.range_succ, List.findSome?_append]
    by_cases e : p = n
    · subst e
      have : (List.range p).findSome? g = none := List.findSome?_eq_none_iff.2 fun x hx => hno x (List.mem_range.1 hx)
      rw [this]; simp [h]
    · rw [some_first h hno n (by omega)]; rfl
theorem none_all {α : Type} {g : Nat → Option α} {n : Nat} (hno : ∀ q, q < n → g q = none) : (List.range n).findSome? g = none := List.findSome?_eq_none_iff.2 fun x hx => hno x (List.mem_range.1 hx)
theorem hasR_ev {l : List Int} {h : H} {x : V} (hw : h.wf) (hx : SlAt h x 1 (l.map encI)) (e : Int) (Q : V → H → Prop) (q : ∀ h', h.Sub h' → Q (.bool (l.any fun r => decide (r = e))) h') :
    Ev fnG fastA (.fn 73 [] []) [x, .int .i64 e] h Q := by
  have hb := hx.boundE
  refine Ev_body (fd := c73) rfl rfl rfl ?_
  have lx := hx.lenE
  simp -implicitDefEqProofs (maxSteps := 999999) (disch := first | with_reducible rfl | omega | (simp only [nA, nS, nD] <;> omega) | fail) only [c73, go_sem]
  refine W_count l.length (fun i s => ∃ tm h', s = ⟨tm, h', []⟩ ∧ h.Sub h' ∧ (∀ j (hj : j < l.length), j < i → l[j] ≠ e) ∧ (Opd.t 0).ev tm = x ∧ (Opd.t 1).ev tm = .int .i64 e ∧ (Opd.t 5).ev tm = .int .i64 (i : Int))
    ?_ ?_ (i := 0) (Nat.zero_le _) ⟨_, _, rfl, H.Sub.refl hw, fun j hj h0 => by omega, (by simp [ev_c, ev_put] <;> rfl), (by simp [ev_c, ev_put] <;> rfl), (by simp [ev_c, ev_put] <;> rfl)⟩
  · rintro i s hi ⟨tm, h', rfl, hs, hno, e0, e1, e5⟩
    have hi' : (i : Int) < (l.length : Int) := by omega
    obtain ⟨b, o, c, cs, ex, hc, hq, hg, hn, hn0⟩ := (hx.mono hs).at hi
    have hv := hn0 (by omega)
    simp only [encI] at hv
    by_cases hpr : l[i] = e
    · have hd : decide (l[i] = e) = true := decide_eq_true hpr
      have ht : (l.any fun r => decide (r = e)) = true := List.any_eq_true.2 ⟨_, List.getElem_mem hi, hd⟩
      rw [ht] at q
      simp -implicitDefEqProofs (maxSteps := 999999) (disch := first | with_reducible rfl | omega | (simp only [nA, nS, nD] <;> omega) | fail) only [go_sem, e0, e1, e5, lx, hi', hq (nat_cst i), hc, hv, hd]
      exact q _ hs
    · have hd : decide (l[i] = e) = false := decide_eq_false hpr
      simp -implicitDefEqProofs (maxSteps := 999999) (disch := first | with_reducible rfl | omega | (simp only [nA, nS, nD] <;> omega) | fail) only [go_sem, e0, e1, e5, lx, hi', hq (nat_cst i), hc, hv, hd, wr_succ]
      exact ⟨_, _, rfl, hs, fun j hj h0 => by
        by_cases e : j = i
        · subst e; exact hpr
        · exact hno j hj (by omega), (by simp [ev_c, ev_put, e0] <;> rfl), (by simp [ev_c, ev_put, e1] <;> rfl), (by simp [ev_c, ev_put] <;> rfl)⟩
  · rintro s ⟨tm, h', rfl, hs, hno, e0, e1, e5⟩
    have hf : (l.any fun r => decide (r = e)) = false := by
      rw [List.any_eq_false]
      intro r hr
      obtain ⟨j, hj, rfl⟩ := List.getElem_of_mem hr
      simpa using hno j hj hj
    rw [hf] at q
    simp -implicitDefEqProofs (maxSteps := 999999) (disch := first | with_reducible rfl | omega | (simp only [nA, nS, nD] <;> omega) | fail) only [go_sem, e0, e1, e5, lx, Int.lt_irrefl]
    exact q _ hs
end Go.Ab.Tryz
set_option linter.unusedSimpArgs false
set_option linter.unusedVariables false
namespace Go.Ab.Tryz
end Go.Ab.Tryz
set_option linter.unusedSimpArgs false
set_option linter.unusedVariables false
namespace Go.Ab
namespace Tryz
end Tryz
end Go.Ab
set_option linter.unusedSimpArgs false
set_option linter.unusedVariables false
namespace Go.Ab.Tryz
def tellK (t : Tb) (a b : Sd) : Nat → List Int
  | 0 => []
  | n + 1 => tellK t a b n ++ if tellsE t n a b = true then [(n : Int)] else []
theorem tellK_len (t : Tb) (a b : Sd) : ∀ n, (tellK t a b n).length ≤ n
  | 0 => Nat.le_refl _
  | n + 1 => by
    have := tellK_len t a b n
    simp only [tellK, List.length_append]
    split <;> simp <;> omega
theorem tellK_nil {t : Tb} {a b : Sd} : ∀ {n}, tellK t a b n = [] ↔ ∀ i, i < n → tellsE t i a b = false
  | 0 => by simp [tellK]
  | n + 1 => by
    have ih := tellK_nil (t := t) (a := a) (b := b) (n := n)
    simp only [tellK, List.append_eq_nil_iff, ih]
    constructor
    · rintro ⟨h1, h2⟩ m hm
      by_cases e : m = n
      · subst e
        cases hc : tellsE t m a b
        · rfl
        · rw [hc] at h2; simp at h2
      · exact h1 m (by omega)
    · intro hh
      exact ⟨fun m hm => hh m (by omega), by rw [hh n (by omega)]; rfl⟩
end Go.Ab.Tryz
set_option linter.unusedSimpArgs false
set_option linter.unusedVariables false
namespace Go.Ab
namespace Tryz
section
variable {h0 h h' h1 : H} {p : Nat} {x X Y Z : V} {t : Tb} {T T1 : Int}
end
end Tryz
end Go.Ab
