/- Sees, Apart, Match, Scrap. Tables copied and compared; the reference's table. The reference's table, and its errors. The reference's Check, Sees, Tells, Alike, Apart. -/
import Derived.Test.YtkjbamlcgojkmaaG2
set_option linter.unusedSimpArgs false
set_option linter.unusedVariables false
namespace Go.Ab
theorem own1_lit {h : H} {n : Int} : SlAt (h.add (.cells .rw [.int .i64 n])) (.sl h.next 0 1 (.fix 1)) 1 [[.int .i64 n]] := SlAt.new _ rfl rfl (by simp) (by simp) (by simp)
namespace Try
theorem awake_eq (h : H) (Q : V → H → Prop) : Ev fnG fastA (.fn 13 [] []) [] h Q = Q (.bool true) h := Ev.det ⟨1, .bool true, h, rfl, rfl, rfl⟩ Q
end Try
end Go.Ab
set_option linter.unusedSimpArgs false
set_option linter.unusedVariables false
namespace Go.Ab.Try
end Go.Ab.Try
set_option linter.unusedSimpArgs false
set_option linter.unusedVariables false
namespace Go.Ab
end Go.Ab
namespace Go.Ab.Try
def tellsE (t : Tb) (i : Nat) (a b : Sd) : Bool := (List.range t.lights.length).any fun k => tellsAt t a b i k
theorem tellsAt_eq {t : Tb} {a b : Sd} {i k : Nat} (hi : i < t.eyes.length) (hk : k < t.lights.length) : tellsAt t a b i k = decide (t.eyes[i].frm ≤ seesN t.eyes[i].s t.lights[k] a b) := by
  unfold tellsAt; rw [List.getElem?_eq_getElem hi, List.getElem?_eq_getElem hk]
theorem any_range_step {p : Nat → Bool} (n : Nat) : (List.range (n + 1)).any p = ((List.range n).any p || p n) := by
  rw [List.range_succ, List.any_append]; simp
theorem any_range_hit {p : Nat → Bool} {n k : Nat} (h : k < n) (hp : p k = true) : (List.range n).any p = true := List.any_eq_true.2 ⟨k, List.mem_range.2 h, hp⟩
theorem seesN_self (e l a : Sd) : seesN e l a a = 0 := by
  have : ∀ i, part e l a a i = 0 := fun i => by
    induction i with
    | zero => rfl
    | succ i ih => simp only [part, ih, term, dif]; simp
  exact this 3
theorem apartK_nil (t : Tb) (a b : Sd) : ∀ n, apartK t a b n = [] ↔ ∀ m, m < n → tellsAt t a b (m / t.lights.length) (m % t.lights.length) = false
  | 0 => by simp [apartK]
  | n + 1 => by
    have ih := apartK_nil t a b n
    simp only [apartK, List.append_eq_nil_iff, ih]
    constructor
    · rintro ⟨h1, h2⟩ m hm
      by_cases e : m = n
      · subst e
        cases hc : tellsAt t a b (m / t.lights.length) (m % t.lights.length)
        · rfl
        · rw [hc] at h2; simp at h2
      · exact h1 m (by omega)
    · intro hh
      exact ⟨fun m hm => hh m (by omega), by rw [hh n (by omega)]; rfl⟩
theorem tells_self {t : Tb} (g : Good t) (a : Sd) (i k : Nat) : tellsAt t a a i k = false := by
  unfold tellsAt
  split
  · rename_i e l he hl
    have := (g.eye e (List.mem_of_getElem? he)).2.1
    rw [seesN_self]; simp; omega
  · rfl
theorem apartL_eq {t : Tb} (g : Good t) (a b : Sd) : apartL t a b = apartK t a b (t.eyes.length * t.lights.length) := by
  unfold apartL
  split
  · rename_i e
    subst e
    exact ((apartK_nil t a a _).2 fun m _ => tells_self g a _ _).symm
  · rfl
theorem alike_iff {t : Tb} (g : Good t) (a b : Sd) : alike t a b = true ↔ ∀ i k, i < t.eyes.length → k < t.lights.length → tellsAt t a b i k = false := by
  unfold alike
  rw [List.isEmpty_iff, apartL_eq g, apartK_nil]
  constructor
  · intro hh i k hi hk
    have := hh (i * t.lights.length + k) (by
      have h1 := Nat.mul_le_mul_right t.lights.length hi
      rw [Nat.succ_mul] at h1; omega)
    have e1 : (i * t.lights.length + k) / t.lights.length = i := by rw [Nat.add_comm, Nat.add_mul_div_right _ _ (by omega), Nat.div_eq_of_lt hk, Nat.zero_add]
    have e2 : (i * t.lights.length + k) % t.lights.length = k := by rw [Nat.add_comm, Nat.add_mul_mod_self_right, Nat.mod_eq_of_lt hk]
    rwa [e1, e2] at this
  · intro hh m hm
    have gl := g.lights.1
    exact hh _ _ (Nat.div_lt_of_lt_mul (by rw [Nat.mul_comm]; exact hm)) (Nat.mod_lt _ (by omega))
theorem alike_all {t : Tb} (g : Good t) (a b : Sd) : alike t a b = (List.range t.eyes.length).all fun i => !tellsE t i a b := by
  rw [Bool.eq_iff_iff, alike_iff g, List.all_eq_true]
  constructor
  · intro hh i hi
    have : tellsE t i a b = false := by
      unfold tellsE
      rw [List.any_eq_false]
      intro k hk
      rw [hh i k (List.mem_range.1 hi) (List.mem_range.1 hk)]; simp
    rw [this]; rfl
  · intro hh i k hi hk
    have h1 := hh i (List.mem_range.2 hi)
    cases hc : tellsAt t a b i k
    · rfl
    · have : tellsE t i a b = true := any_range_hit hk hc
      rw [this] at h1; simp at h1
theorem dif_comm (a b : Int) : dif a b = dif b a := by unfold dif; omega
theorem seesN_comm (e l a b : Sd) : seesN e l a b = seesN e l b a := by
  have : ∀ i, part e l a b i = part e l b a i := fun i => by
    induction i with
    | zero => rfl
    | succ i ih => simp only [part, ih, term, dif_comm (a.at i) (b.at i)]
  exact this 3
theorem tellsAt_comm (t : Tb) (a b : Sd) (i k : Nat) : tellsAt t a b i k = tellsAt t b a i k := by
  unfold tellsAt
  split
  · rw [seesN_comm]
  · rfl
theorem alike_comm {t : Tb} (g : Good t) (a b : Sd) : alike t a b = alike t b a := by
  rw [Bool.eq_iff_iff, alike_iff g, alike_iff g]
  constructor <;> intro hh i k hi hk <;> rw [tellsAt_comm] <;> exact hh i k hi hk
end Go.Ab.Try
set_option linter.unusedSimpArgs false
set_option linter.unusedVariables false
namespace Go.Ab.Try
theorem opened_use {h : H} {E L P : V} {t : Tb} (hw : h.wf) (ht : TbIs h (.agg [E, L, P]) t) (Q : V → H → Prop) (q0 : ∀ h', h.Sub h' → check t ≠ 0 → Q (.tup [.nilp, .int .i64 (check t)]) h') (q1 : ∀ h' d, h.Sub h' → check t = 0 → Good t → DkAt h' d t → Q (.tup [.ptr d 0, .int .i64 0]) h') :
    Ev fnG fastA (.fn 85 [] []) [.agg [E, L, P]] h Q :=
  (opened_ev hw ht).mono fun u h' hu => by
    obtain ⟨s, hu⟩ := hu
    rcases hu with ⟨c, rfl⟩ | ⟨c, d, rfl, _, hd⟩
    · exact q0 _ s c
    · exact q1 _ d s c (check_iff.1 c) hd
def isPc (t : Tb) (p : Int) : Bool := decide (0 ≤ p ∧ p < t.pieces.length)
theorem piece_ev {h : H} {E L P : V} {t : Tb} (hw : h.wf) (ht : TbIs h (.agg [E, L, P]) t) (p : Int) (Q : V → H → Prop) (q : ∀ h', h.Sub h' → Q (.bool (isPc t p)) h') : Ev fnG fastA (.fn 86 [] []) [.agg [E, L, P], .int .i64 p] h Q := by
  obtain ⟨E', L', P', e, aE, aL, aP⟩ := ht
  cases e
  have hlP := aP.lenE
  have bP := aP.boundE
  refine Ev_body (fd := c86) rfl rfl rfl ?_
  have e : inB p 0 ((t.pieces.length : Int) - 1) = isPc t p := by unfold inB isPc; rw [Bool.eq_iff_iff]; simp; omega
  simp -implicitDefEqProofs (maxSteps := 999999) (disch := first | with_reducible rfl | omega | (simp only [nA, nS, nD] <;> omega) | fail) only [c86, go_sem, hlP, wr_in, in_ev, e]
  exact q _ ((by repeat (first | assumption | exact H.Sub.refl (by assumption) | refine H.Sub.add ?_ _ | refine H.Sub.set ?_ (by first | omega | (simp only [H.next_add, H.next_set, H.next_del] <;> omega)) (by first | omega | (simp only [H.next_add, H.next_set, H.next_del] <;> omega)) (by assumption) _)))
end Go.Ab.Try
