/- EyeChains. The reference's Steps. Add: a table with one more piece. The reference's chain: the first shortest way. The reference's chain, Chain and Kin. Numbers that are wound off bytes: the contracts of Spool. Shades that are wound off; what tells two shades apart, as the law has it. Made: a table that is wound off. The law's own match; the sum of all kin. -/
import Derived.Test.YtkjbamlcgojkmaaGreatG2
import Derived.Test.YtkjbamlcgojkmaaGreatAc7
import Derived.Test.YtkjbamlcgojkmaaGreatG4
set_option linter.unusedSimpArgs false
set_option linter.unusedVariables false
namespace Go.Ab.Tryz
end Go.Ab.Tryz
set_option linter.unusedSimpArgs false
set_option linter.unusedVariables false
namespace Go.Ab
theorem clone_core {h : H} {x : V} {sz by_ : Nat} {rows : List (List V)} {Q : V → H → Prop} (hw : h.wf) (hx : SlAt h x sz rows) (hl : rows.length * by_ ≤ 1000000000) (hl2 : rows.length ≤ 1000000000) (q : ∀ v h', OwnC h h' v sz rows → Q v h') :
  P2 (e_app' (h.add (.cells .rw [])) sz by_ (.sl h.next 0 0 (.fix 0)) x) Q := by
 have s1 : h.Sub (h.add (.cells .rw [])) := (H.Sub.refl hw).add _
 have hx1 := (hx.mono s1).elems
 rw [e_app_eq, hx1.1, hx1.2]
 simp only [ob_some]
 cases hn : rows.length with
 | zero =>
  have e : rows = [] := List.length_eq_zero_iff.1 hn
  rw [e_app_fix0]
  have : Nat.ble 0 0 = true := rfl
  rw [this, og_true, P2_some]
  exact q _ _ (by rw [e]; exact ⟨s1, by simp, .inr (.inr ⟨h.next, 0, [], rfl, Nat.le_refl _, by rw [H.next_add]; omega, get_add_new rfl, by simp, Nat.le_refl _⟩)⟩)
 | succ k =>
  rw [e_app_full (by omega) (elems_0 _ _ _ _ _) (by rw [hn] at hl; simp only [Nat.zero_add]; omega) (by omega), grown_eq, P2_some]
  exact q _ _ ⟨s1.add _, hx.1, .inr (.inl ⟨(h.add (.cells .rw [])).next, by rw [hn, Nat.zero_add], by rw [H.next_add]; omega, by simp only [H.next_add]; omega, by rw [get_add_new rfl]; rfl⟩)⟩
namespace Tryz
theorem nblk (b : Nat) : ¬ blkOf .nils b := fun ⟨_, _, _, e⟩ => by cases e
end Tryz
end Go.Ab
set_option linter.unusedSimpArgs false
set_option linter.unusedVariables false
namespace Go.Ab.Tryz
theorem some_first {α : Type} {g : Nat → Option α} {p : Nat} {l : α} (h : g p = some l) (hno : ∀ q, q < p → g q = none) : ∀ n, p < n → (List.range n).findSome? g = some l
 | 0, h' => by omega
 | n + 1, h' => by
  rw [List.range_succ, List.findSome?_append]
  by_cases e : p = n
  ·subst e
   have : (List.range p).findSome? g = none := List.findSome?_eq_none_iff.2 fun x hx => hno x (List.mem_range.1 hx)
   rw [this]; simp [h]
  ·rw [some_first h hno n (by omega)]; rfl
theorem none_all {α : Type} {g : Nat → Option α} {n : Nat} (hno : ∀ q, q < n → g q = none) : (List.range n).findSome? g = none := List.findSome?_eq_none_iff.2 fun x hx => hno x (List.mem_range.1 hx)
theorem hasR_ev {l : List Int} {h : H} {x : V} (hw : h.wf) (hx : SlAt h x 1 (l.map encI)) (e : Int) (Q : V → H → Prop) (q : ∀ h', h.Sub h' → Q (.bool (l.any fun r => decide (r = e))) h') :
  Ev fnG fastA (.fn 73 [] []) [x, .int .i64 e] h Q := by
 have hb := hx.boundE
 refine Ev_body (fd := c73) rfl rfl rfl ?_
 have lx := hx.lenE
 simp -implicitDefEqProofs (maxSteps := 999999) (disch := first | with_reducible rfl | omega | (simp only [nA, nS, nD] <;> omega) | fail) only [c73, go_sem]
 refine W_count l.length (fun i s => ∃ tm h', s = ⟨tm, h', []⟩ ∧ h.Sub h' ∧ (∀ j (hj : j < l.length), j < i → l[j] ≠ e) ∧ (Opd.t 0).ev tm = x ∧ (Opd.t 1).ev tm = .int .i64 e ∧ (Opd.t 5).ev tm = .int .i64 (i : Int))
  ?_ ?_ (i := 0) (Nat.zero_le _) ⟨_, _, rfl, H.Sub.refl hw, fun j hj h0 => by omega, (by simp [ev_c, ev_put] <;> rfl), (by simp [ev_c, ev_put] <;> rfl), (by simp [ev_c, ev_put] <;> rfl)⟩
 ·rintro i s hi ⟨tm, h', rfl, hs, hno, e0, e1, e5⟩
  have hi' : (i : Int) < (l.length : Int) := by omega
  obtain ⟨b, o, c, cs, ex, hc, hq, hg, hn, hn0⟩ := (hx.mono hs).at hi
  have hv := hn0 (by omega)
  simp only [encI] at hv
  by_cases hpr : l[i] = e
  ·have hd : decide (l[i] = e) = true := decide_eq_true hpr
   have ht : (l.any fun r => decide (r = e)) = true := List.any_eq_true.2 ⟨_, List.getElem_mem hi, hd⟩
   rw [ht] at q
   simp -implicitDefEqProofs (maxSteps := 999999) (disch := first | with_reducible rfl | omega | (simp only [nA, nS, nD] <;> omega) | fail) only [go_sem, e0, e1, e5, lx, hi', hq (nat_cst i), hc, hv, hd]
   exact q _ hs
  ·have hd : decide (l[i] = e) = false := decide_eq_false hpr
   simp -implicitDefEqProofs (maxSteps := 999999) (disch := first | with_reducible rfl | omega | (simp only [nA, nS, nD] <;> omega) | fail) only [go_sem, e0, e1, e5, lx, hi', hq (nat_cst i), hc, hv, hd, wr_succ]
   exact ⟨_, _, rfl, hs, fun j hj h0 => by
    by_cases e : j = i
    ·subst e; exact hpr
    ·exact hno j hj (by omega), (by simp [ev_c, ev_put, e0] <;> rfl), (by simp [ev_c, ev_put, e1] <;> rfl), (by simp [ev_c, ev_put] <;> rfl)⟩
 ·rintro s ⟨tm, h', rfl, hs, hno, e0, e1, e5⟩
  have hf : (l.any fun r => decide (r = e)) = false := by
   rw [List.any_eq_false]
   intro r hr
   obtain ⟨j, hj, rfl⟩ := List.getElem_of_mem hr
   simpa using hno j hj hj
  rw [hf] at q
  simp -implicitDefEqProofs (maxSteps := 999999) (disch := first | with_reducible rfl | omega | (simp only [nA, nS, nD] <;> omega) | fail) only [go_sem, e0, e1, e5, lx, Int.lt_irrefl]
  exact q _ hs
end Go.Ab.Tryz
set_option linter.unusedSimpArgs false
set_option linter.unusedVariables false
namespace Go.Ab.Tryz
end Go.Ab.Tryz
set_option linter.unusedSimpArgs false
set_option linter.unusedVariables false
namespace Go.Ab
namespace Tryz
end Tryz
end Go.Ab
set_option linter.unusedSimpArgs false
set_option linter.unusedVariables false
namespace Go.Ab.Tryz
def tellK (t : Tb) (a b : Sd) : Nat → List Int
 | 0 => []
 | n + 1 => tellK t a b n ++ if tellsE t n a b = true then [(n : Int)] else []
end Go.Ab.Tryz
set_option linter.unusedSimpArgs false
set_option linter.unusedVariables false
namespace Go.Ab
namespace Tryz
section
variable {h0 h h' h1 : H} {p : Nat} {x X Y Z : V} {t : Tb} {T T1 : Int}
end
end Tryz
end Go.Ab
set_option linter.unusedSimpArgs false
set_option linter.unusedVariables false
namespace Go.Ab.Tryz
end Go.Ab.Tryz
set_option linter.unusedSimpArgs false
set_option linter.unusedVariables false
namespace Go.Ab.Tryz
end Go.Ab.Tryz
