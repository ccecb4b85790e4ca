/- Add: a table with one more piece. How far a part of a shade can change: Shades, as the program and as the reference find it. The reference's Shades, Apart and Scrap. EyeMatches. -/
import Derived.Test.YtkjbamlcgojkmaaG4
set_option linter.unusedSimpArgs false
set_option linter.unusedVariables false
namespace Go.Ab.Try
def Sd.put (s : Sd) (p : Nat) (n : Int) : Sd := match p with
  | 0 => ⟨n, s.y, s.z⟩
  | 1 => ⟨s.x, n, s.z⟩
  | _ => ⟨s.x, s.y, n⟩
theorem put_put (s : Sd) (p : Nat) (m n : Int) : (s.put p m).put p n = s.put p n := match p with | 0 => rfl | 1 => rfl | _ + 2 => rfl
def okP (t : Tb) (s : Sd) (p : Nat) (n : Int) : Bool := alike t s (s.put p n)
end Go.Ab.Try
set_option linter.unusedSimpArgs false
set_option linter.unusedVariables false
namespace Go.Ab
end Go.Ab
namespace Go.Ab.Try
end Go.Ab.Try
set_option linter.unusedSimpArgs false
set_option linter.unusedVariables false
namespace Go.Ab.Try
variable {Fn : Nat → Option FD} {fast : Nat → Option (List V → H → Option (V × H))} {N fn : Nat} {ro : Option Nat}
theorem PBd_join {v : V} {c1 c2 : C} {s1 s2 : St} {K : X → St → Prop} {tg} (R : X → St → Prop) (h : PBd v (W Fn fast N fn ro c1 s1 R) (W Fn fast N fn ro c2 s2 R) ⟨⟩) (k : ∀ x s, R x s → K x s) : PBd v (W Fn fast N fn ro c1 s1 K) (W Fn fast N fn ro c2 s2 K) tg := by
  cases v
  case bool b => cases b <;> exact W.mono h k
  all_goals exact h.elim
theorem d10 : decide ((1 : Int) = 0) = false := rfl
theorem d00 : decide ((0 : Int) = 0) = true := rfl
theorem Small_of {t : Tb} (h : greatT t = false) : Small t := by
  simp only [greatT, decide_eq_false_iff_not] at h
  exact ⟨by omega, by omega, by omega⟩
end Go.Ab.Try
set_option linter.unusedSimpArgs false
set_option linter.unusedVariables false
namespace Go.Ab
theorem clone_core {h : H} {x : V} {sz by_ : Nat} {rows : List (List V)} {Q : V → H → Prop} (hw : h.wf) (hx : SlAt h x sz rows) (hl : rows.length * by_ ≤ 1000000000) (hl2 : rows.length ≤ 1000000000) (q : ∀ v h', OwnC h h' v sz rows → Q v h') :
    P2 (e_app' (h.add (.cells .rw [])) sz by_ (.sl h.next 0 0 (.fix 0)) x) Q := by
  have s1 : h.Sub (h.add (.cells .rw [])) := (H.Sub.refl hw).add _
  have hx1 := (hx.mono s1).elems
  rw [e_app_eq, hx1.1, hx1.2]
  simp only [ob_some]
  cases hn : rows.length with
  | zero =>
    have e : rows = [] := List.length_eq_zero_iff.1 hn
    rw [e_app_fix0]
    have : Nat.ble 0 0 = true := rfl
    rw [this, og_true, P2_some]
    exact q _ _ (by rw [e]; exact ⟨s1, by simp, .inr (.inr ⟨h.next, 0, [], rfl, Nat.le_refl _, by rw [H.next_add]; omega, get_add_new rfl, by simp, Nat.le_refl _⟩)⟩)
  | succ k =>
    rw [e_app_full (by omega) (elems_0 _ _ _ _ _) (by rw [hn] at hl; simp only [Nat.zero_add]; omega) (by omega), grown_eq, P2_some]
    exact q _ _ ⟨s1.add _, hx.1, .inr (.inl ⟨(h.add (.cells .rw [])).next, by rw [hn, Nat.zero_add], by rw [H.next_add]; omega, by simp only [H.next_add]; omega, by rw [get_add_new rfl]; rfl⟩)⟩
namespace Try
end Try
end Go.Ab
