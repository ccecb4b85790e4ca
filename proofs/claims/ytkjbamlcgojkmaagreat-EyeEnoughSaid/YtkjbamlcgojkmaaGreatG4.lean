/- Chain. Distances in a graph of few points, and how a search that goes by breadth finds them. Plain. A queue of integers: taken from the front, appended to at the end. Sees, Apart, Match, Scrap. How far a part of a shade can change: Shades, as the program and as the reference find it. The reference's Shades, Apart and Scrap. EyeMatches. How far a piece is from another: the search by breadth, in a map. -/
import Derived.Test.YtkjbamlcgojkmaaGreatG2
set_option linter.unusedSimpArgs false
set_option linter.unusedVariables false
namespace Go.Ab.Tryz
def Wk (n : Nat) (M : Nat → Nat → Bool) : Nat → Nat → Nat → Prop
  | 0, p, q => p = q
  | k + 1, p, q => ∃ r, r < n ∧ Wk n M k p r ∧ M r q = true
theorem Wk.pre {n : Nat} {M : Nat → Nat → Bool} {p r : Nat} (hp : p < n) (hm : M p r = true) : ∀ {k q}, Wk n M k r q → Wk n M (k + 1) p q
  | 0, q, h => ⟨p, hp, rfl, by have : r = q := h; rw [← this]; exact hm⟩
  | k + 1, q, ⟨x, hx, h1, h2⟩ => ⟨x, hx, Wk.pre hp hm h1, h2⟩
end Go.Ab.Tryz
set_option linter.unusedSimpArgs false
set_option linter.unusedVariables false
namespace Go.Ab
noncomputable def slcFrom (h : H) (sz : Nat) (x k : V) : Option V := q_slc .nil h sz x (some (.c k)) none none
theorem q_slc_from (tm : T V) (h : H) (sz : Nat) (x : V) (y : Opd) : q_slc tm h sz x (some y) none none = slcFrom h sz x (y.ev tm) := rfl
namespace Tryz
theorem map_flat (l : List Int) : (l.map encI).flatten = l.map iv := by
  induction l with
  | nil => rfl
  | cons a l ih => simp only [List.map_cons, List.flatten_cons, ih, encI]; rfl
end Tryz
end Go.Ab
set_option linter.unusedSimpArgs false
set_option linter.unusedVariables false
namespace Go.Ab.Tryz
theorem opened_use {h : H} {E L P : V} {t : Tb} (hw : h.wf) (ht : TbIs h (.agg [E, L, P]) t) (Q : V → H → Prop) (q0 : ∀ h', h.Sub h' → check t ≠ 0 → Q (.tup [.nilp, .int .i64 (check t)]) h') (q1 : ∀ h' d, h.Sub h' → check t = 0 → Good t → DkAt h' d t → Q (.tup [.ptr d 0, .int .i64 0]) h') :
    Ev fnG fastA (.fn 74 [] []) [.agg [E, L, P]] h Q :=
  (opened_ev hw ht).mono fun u h' hu => by
    obtain ⟨s, hu⟩ := hu
    rcases hu with ⟨c, rfl⟩ | ⟨c, d, rfl, _, hd⟩
    · exact q0 _ s c
    · exact q1 _ d s c (check_iff.1 c) hd
end Go.Ab.Tryz
set_option linter.unusedSimpArgs false
set_option linter.unusedVariables false
namespace Go.Ab.Tryz
def Sd.put (s : Sd) (p : Nat) (n : Int) : Sd := match p with
  | 0 => ⟨n, s.y, s.z⟩
  | 1 => ⟨s.x, n, s.z⟩
  | _ => ⟨s.x, s.y, n⟩
theorem put_put (s : Sd) (p : Nat) (m n : Int) : (s.put p m).put p n = s.put p n := match p with | 0 => rfl | 1 => rfl | _ + 2 => rfl
def okP (t : Tb) (s : Sd) (p : Nat) (n : Int) : Bool := alike t s (s.put p n)
end Go.Ab.Tryz
set_option linter.unusedSimpArgs false
set_option linter.unusedVariables false
namespace Go.Ab
theorem OwnSl.up {h0 h1 h : H} {x : V} {sz : Nat} {rows : List (List V)} (a : OwnSl h1 h x sz rows) (s : h0.Sub h1) : OwnSl h0 h x sz rows := by
  obtain ⟨a0, a1, a2⟩ := a
  refine ⟨s.trans a0, a1, ?_⟩
  have := s.next
  rcases a2 with a2 | ⟨b, e, l1, l2, hb⟩
  · exact .inl a2
  · exact .inr ⟨b, e, by omega, l2, hb⟩
end Go.Ab
namespace Go.Ab.Tryz
theorem apartK_row (t : Tb) (a b : Sd) {i k : Nat} (hk : k < t.lights.length) : apartK t a b (i * t.lights.length + k + 1) = apartK t a b (i * t.lights.length + k) ++ if tellsAt t a b i k = true then [((i : Int), (k : Int))] else [] := by
  have e1 : (i * t.lights.length + k) / t.lights.length = i := by rw [Nat.add_comm, Nat.add_mul_div_right _ _ (by omega), Nat.div_eq_of_lt hk, Nat.zero_add]
  have e2 : (i * t.lights.length + k) % t.lights.length = k := by rw [Nat.add_comm, Nat.add_mul_mod_self_right, Nat.mod_eq_of_lt hk]
  simp only [apartK, e1, e2]
end Go.Ab.Tryz
set_option linter.unusedSimpArgs false
set_option linter.unusedVariables false
namespace Go.Ab.Tryz
variable {Fn : Nat → Option FD} {fast : Nat → Option (List V → H → Option (V × H))} {N fn : Nat} {ro : Option Nat}
theorem PBd_join {v : V} {c1 c2 : C} {s1 s2 : St} {K : X → St → Prop} {tg} (R : X → St → Prop) (h : PBd v (W Fn fast N fn ro c1 s1 R) (W Fn fast N fn ro c2 s2 R) ⟨⟩) (k : ∀ x s, R x s → K x s) : PBd v (W Fn fast N fn ro c1 s1 K) (W Fn fast N fn ro c2 s2 K) tg := by
  cases v
  case bool b => cases b <;> exact W.mono h k
  all_goals exact h.elim
theorem Small_of {t : Tb} (h : greatT t = false) : Small t := by
  simp only [greatT, decide_eq_false_iff_not] at h
  exact ⟨by omega, by omega, by omega⟩
end Go.Ab.Tryz
set_option linter.unusedSimpArgs false
set_option linter.unusedVariables false
namespace Go.Ab.Tryz
def MM (t : Tb) (q p : Nat) : Bool := matchB t p q
end Go.Ab.Tryz
set_option linter.unusedSimpArgs false
set_option linter.unusedVariables false
namespace Go.Ab.Tryz
end Go.Ab.Tryz
