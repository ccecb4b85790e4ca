/- Sees, Apart, Match, Scrap. Tables copied and compared; the reference's table. The reference's table, and its errors. The reference's Check, Sees, Tells, Alike, Apart. -/
import Derived.Test.YtkjbamlcgojkmaaG2
set_option linter.unusedSimpArgs false
set_option linter.unusedVariables false
namespace Go.Ab
theorem own1_lit {h : H} {n : Int} : SlAt (h.add (.cells .rw [.int .i64 n])) (.sl h.next 0 1 (.fix 1)) 1 [[.int .i64 n]] := SlAt.new _ rfl rfl (by simp) (by simp) (by simp)
namespace Try
theorem awake_eq (h : H) (Q : V → H → Prop) : Ev fnG fastA (.fn 13 [] []) [] h Q = Q (.bool true) h := Ev.det ⟨1, .bool true, h, rfl, rfl, rfl⟩ Q
end Try
end Go.Ab
set_option linter.unusedSimpArgs false
set_option linter.unusedVariables false
namespace Go.Ab.Try
end Go.Ab.Try
set_option linter.unusedSimpArgs false
set_option linter.unusedVariables false
namespace Go.Ab
end Go.Ab
namespace Go.Ab.Try
def tellsE (t : Tb) (i : Nat) (a b : Sd) : Bool := (List.range t.lights.length).any fun k => tellsAt t a b i k
theorem tellsAt_eq {t : Tb} {a b : Sd} {i k : Nat} (hi : i < t.eyes.length) (hk : k < t.lights.length) : tellsAt t a b i k = decide (t.eyes[i].frm ≤ seesN t.eyes[i].s t.lights[k] a b) := by
  unfold tellsAt; rw [List.getElem?_eq_getElem hi, List.getElem?_eq_getElem hk]
theorem any_range_step {p : Nat → Bool} (n : Nat) : (List.range (n + 1)).any p = ((List.range n).any p || p n) := by
  rw [List.range_succ, List.any_append]; simp
theorem any_range_hit {p : Nat → Bool} {n k : Nat} (h : k < n) (hp : p k = true) : (List.range n).any p = true := List.any_eq_true.2 ⟨k, List.mem_range.2 h, hp⟩
theorem seesN_self (e l a : Sd) : seesN e l a a = 0 := by
  have : ∀ i, part e l a a i = 0 := fun i => by
    induction i with
    | zero => rfl
    | succ i ih => simp only [part, ih, term, dif]; simp
  exact this 3
theorem apartK_nil (t : Tb) (a b : Sd) : ∀ n, apartK t a b n = [] ↔ ∀ m, m < n → tellsAt t a b (m / t.lights.length) (m % t.lights.length) = false
  | 0 => by simp [apartK]
  | n + 1 => by
    have ih := apartK_nil t a b n
    simp only [apartK, List.append_eq_nil_iff, ih]
    constructor
    · rintro ⟨h1, h2⟩ m hm
      by_cases e : m = n
      · subst e
        cases hc : tellsAt t a b (m / t.lights.length) (m % t.lights.length)
        · rfl
        · rw [hc] at h2; simp at h2
      · exact h1 m (by omega)
    · intro hh
      exact ⟨fun m hm => hh m (by omega), by rw [hh n (by omega)]; rfl⟩
theorem tells_self {t : Tb} (g : Good t) (a : Sd) (i k : Nat) : tellsAt t a a i k = false := by
  unfold tellsAt
  split
  · rename_i e l he hl
    have := (g.eye e (List.mem_of_getElem? he)).2.1
    rw [seesN_self]; simp; omega
  · rfl
theorem apartL_eq {t : Tb} (g : Good t) (a b : Sd) : apartL t a b = apartK t a b (t.eyes.length * t.lights.length) := by
  unfold apartL
  split
  · rename_i e
    subst e
    exact ((apartK_nil t a a _).2 fun m _ => tells_self g a _ _).symm
  · rfl
theorem alike_iff {t : Tb} (g : Good t) (a b : Sd) : alike t a b = true ↔ ∀ i k, i < t.eyes.length → k < t.lights.length → tellsAt t a b i k = false := by
  unfold alike
  rw [List.isEmpty_iff, apartL_eq g, apartK_nil]
  constructor
  · intro hh i k hi hk
    have := hh (i * t.lights.length + k) (by
      have h1 := Nat.mul_le_mul_right t.lights.length hi
      rw [Nat.succ_mul] at h1; omega)
    have e1 : (i * t.lights.length + k) / t.lights.length = i := by rw [Nat.add_comm, Nat.add_mul_div_right _ _ (by omega), Nat.div_eq_of_lt hk, Nat.zero_add]
    have e2 : (i * t.lights.length + k) % t.lights.length = k := by rw [Nat.add_comm, Nat.add_mul_mod_self_right, Nat.mod_eq_of_lt hk]
    rwa [e1, e2] at this
  · intro hh m hm
    have gl := g.lights.1
    exact hh _ _ (Nat.div_lt_of_lt_mul (by rw [Nat.mul_comm]; exact hm)) (Nat.mod_lt _ (by omega))
theorem alike_all {t : Tb} (g : Good t) (a b : Sd) : alike t a b = (List.range t.eyes.length).all fun i => !tellsE t i a b := by
  rw [Bool.eq_iff_iff, alike_iff g, List.all_eq_true]
  constructor
  · intro hh i hi
    have : tellsE t i a b = false := by
      unfold tellsE
      rw [List.any_eq_false]
      intro k hk
      rw [hh i k (List.mem_range.1 hi) (List.mem_range.1 hk)]; simp
    rw [this]; rfl
  · intro hh i k hi hk
    have h1 := hh i (List.mem_range.2 hi)
    cases hc : tellsAt t a b i k
    · rfl
    · have : tellsE t i a b = true := any_range_hit hk hc
      rw [this] at h1; simp at h1
theorem dif_comm (a b : Int) : dif a b = dif b a := by unfold dif; omega
theorem seesN_comm (e l a b : Sd) : seesN e l a b = seesN e l b a := by
  have : ∀ i, part e l a b i = part e l b a i := fun i => by
    induction i with
    | zero => rfl
    | succ i ih => simp only [part, ih, term, dif_comm (a.at i) (b.at i)]
  exact this 3
theorem alike_self {t : Tb} (g : Good t) (a : Sd) : alike t a a = true := (alike_iff g a a).2 fun i k _ _ => tells_self g a i k
end Go.Ab.Try
set_option linter.unusedSimpArgs false
set_option linter.unusedVariables false
namespace Go.Ab.Try
def seesI (t : Tb) (p r : Int) (a b : Sd) : Int := match t.eyes[p.toNat]?, t.lights[r.toNat]? with
  | some e, some l => seesN e.s l a b
  | _, _ => 0
def seesE (t : Tb) (p r : Int) (a b : Sd) : Int := if check t ≠ 0 then check t else if lookB t p r = false then 1 else if a.within 20 = false ∨ b.within 20 = false then 3 else 0
def seesR (t : Tb) (p r : Int) (a b : Sd) : Int := if seesE t p r a b = 0 then seesI t p r a b else 0
theorem opened_use {h : H} {E L P : V} {t : Tb} (hw : h.wf) (ht : TbIs h (.agg [E, L, P]) t) (Q : V → H → Prop) (q0 : ∀ h', h.Sub h' → check t ≠ 0 → Q (.tup [.nilp, .int .i64 (check t)]) h') (q1 : ∀ h' d, h.Sub h' → check t = 0 → Good t → DkAt h' d t → Q (.tup [.ptr d 0, .int .i64 0]) h') :
    Ev fnG fastA (.fn 85 [] []) [.agg [E, L, P]] h Q :=
  (opened_ev hw ht).mono fun u h' hu => by
    obtain ⟨s, hu⟩ := hu
    rcases hu with ⟨c, rfl⟩ | ⟨c, d, rfl, _, hd⟩
    · exact q0 _ s c
    · exact q1 _ d s c (check_iff.1 c) hd
set_option maxHeartbeats 1000000 in
theorem Sees_ev {h : H} {v : V} {t : Tb} (hw : h.wf) (ht : TbIs h v t) (p r : Int) (a b : Sd) (Q : V → H → Prop) (q : ∀ h', h.Sub h' → Q (.tup [.int .i64 (seesR t p r a b), .int .i64 (seesE t p r a b)]) h') :
    Ev fnG fastA (.fn 35 [] []) [v, .agg [.int .i64 p, .int .i64 r], .agg (encD a), .agg (encD b)] h Q := by
  have ht0 := ht
  obtain ⟨E, L, P, rfl, aE, aL, aP⟩ := ht
  refine Ev_body (fd := c35) rfl rfl rfl ?_
  have s4 : h.Sub ((((h.add (.cells .rw [E, L, P])).add (.cells .rw [.int .i64 p, .int .i64 r])).add (.cells .rw [.int .i64 a.x, .int .i64 a.y, .int .i64 a.z])).add (.cells .rw [.int .i64 b.x, .int .i64 b.y, .int .i64 b.z])) := (by repeat (first | assumption | exact H.Sub.refl (by assumption) | refine H.Sub.add ?_ _ | refine H.Sub.set ?_ (by first | omega | (simp only [H.next_add, H.next_set, H.next_del] <;> omega)) (by first | omega | (simp only [H.next_add, H.next_set, H.next_del] <;> omega)) (by assumption) _))
  have q2 : ((((h.add (.cells .rw [E, L, P])).add (.cells .rw [.int .i64 p, .int .i64 r])).add (.cells .rw [.int .i64 a.x, .int .i64 a.y, .int .i64 a.z])).add (.cells .rw [.int .i64 b.x, .int .i64 b.y, .int .i64 b.z])).cells (h.next + 1) = some [.int .i64 p, .int .i64 r] := by simp -implicitDefEqProofs (maxSteps := 999999) (disch := first | with_reducible rfl | omega | (simp only [nA, nS, nD] <;> omega) | fail) only [go_sem]
  have q3 : ((((h.add (.cells .rw [E, L, P])).add (.cells .rw [.int .i64 p, .int .i64 r])).add (.cells .rw [.int .i64 a.x, .int .i64 a.y, .int .i64 a.z])).add (.cells .rw [.int .i64 b.x, .int .i64 b.y, .int .i64 b.z])).cells (h.next + 1 + 1) = some [.int .i64 a.x, .int .i64 a.y, .int .i64 a.z] := by simp -implicitDefEqProofs (maxSteps := 999999) (disch := first | with_reducible rfl | omega | (simp only [nA, nS, nD] <;> omega) | fail) only [go_sem]
  have q4 : ((((h.add (.cells .rw [E, L, P])).add (.cells .rw [.int .i64 p, .int .i64 r])).add (.cells .rw [.int .i64 a.x, .int .i64 a.y, .int .i64 a.z])).add (.cells .rw [.int .i64 b.x, .int .i64 b.y, .int .i64 b.z])).cells (h.next + 1 + 1 + 1) = some [.int .i64 b.x, .int .i64 b.y, .int .i64 b.z] := by simp -implicitDefEqProofs (maxSteps := 999999) (disch := first | with_reducible rfl | omega | (simp only [nA, nS, nD] <;> omega) | fail) only [go_sem]
  simp -implicitDefEqProofs (maxSteps := 999999) (disch := first | with_reducible rfl | omega | (simp only [nA, nS, nD] <;> omega) | fail) only [c35, go_sem, encD]
  generalize ((((h.add (.cells .rw [E, L, P])).add (.cells .rw [.int .i64 p, .int .i64 r])).add (.cells .rw [.int .i64 a.x, .int .i64 a.y, .int .i64 a.z])).add (.cells .rw [.int .i64 b.x, .int .i64 b.y, .int .i64 b.z])) = h4 at s4 q2 q3 q4 ⊢
  refine opened_use s4.wf (ht0.mono s4) _ (fun h5 s45 c => ?_) fun h5 d s45 c g hd => ?_
  · have e1 : seesE t p r a b = check t := by unfold seesE; rw [if_pos c]
    have q' := q _ (s4.trans s45)
    unfold seesR at q'
    rw [e1, if_neg c] at q'
    simp -implicitDefEqProofs (maxSteps := 999999) (disch := first | with_reducible rfl | omega | (simp only [nA, nS, nD] <;> omega) | fail) only [go_sem, ne_eq, c, not_false_eq_true]
    exact q'
  have s5 := s4.trans s45
  simp -implicitDefEqProofs (maxSteps := 999999) (disch := first | with_reducible rfl | omega | (simp only [nA, nS, nD] <;> omega) | fail) only [go_sem, ne_eq, not_true_eq_false, s45.cells q2]
  refine look_ev s5.wf hd g p r _ fun h6 s56 => ?_
  have s46 := s45.trans s56
  have s6 := s5.trans s56
  cases cl : lookB t p r
  · have e1 : seesE t p r a b = 1 := by unfold seesE; rw [if_neg (by simp [c]), if_pos cl]
    have q' := q _ s6
    unfold seesR at q'
    rw [e1, if_neg (by decide)] at q'
    simp -implicitDefEqProofs (maxSteps := 999999) (disch := first | with_reducible rfl | omega | (simp only [nA, nS, nD] <;> omega) | fail) only [go_sem, Bool.not_false]
    exact q'
  have hr := fun (s : Sd) => right_ev (h := h6) s6.wf s
  simp only [encD] at hr
  simp -implicitDefEqProofs (maxSteps := 999999) (disch := first | with_reducible rfl | omega | (simp only [nA, nS, nD] <;> omega) | fail) only [go_sem, Bool.not_true, s46.cells q3]
  refine hr a _ fun h7 s67 => ?_
  have s47 := s46.trans s67
  cases ca : a.within 20
  · have e1 : seesE t p r a b = 3 := by unfold seesE; rw [if_neg (by simp [c]), if_neg (by simp [cl]), if_pos (.inl ca)]
    have q' := q _ (s4.trans s47)
    unfold seesR at q'
    rw [e1, if_neg (by decide)] at q'
    simp -implicitDefEqProofs (maxSteps := 999999) (disch := first | with_reducible rfl | omega | (simp only [nA, nS, nD] <;> omega) | fail) only [go_sem, Bool.not_false]
    exact q'
  have hr := right_ev (h := h7) s47.wf b
  simp only [encD] at hr
  simp -implicitDefEqProofs (maxSteps := 999999) (disch := first | with_reducible rfl | omega | (simp only [nA, nS, nD] <;> omega) | fail) only [go_sem, Bool.not_true, s47.cells q4]
  refine hr _ fun h8 s78 => ?_
  have s48 := s47.trans s78
  cases cb : b.within 20
  · have e1 : seesE t p r a b = 3 := by unfold seesE; rw [if_neg (by simp [c]), if_neg (by simp [cl]), if_pos (.inr cb)]
    have q' := q _ (s4.trans s48)
    unfold seesR at q'
    rw [e1, if_neg (by decide)] at q'
    simp -implicitDefEqProofs (maxSteps := 999999) (disch := first | with_reducible rfl | omega | (simp only [nA, nS, nD] <;> omega) | fail) only [go_sem, Bool.not_false]
    exact q'
  have e1 : seesE t p r a b = 0 := by unfold seesE; rw [if_neg (by simp [c]), if_neg (by simp [cl]), if_neg (by simp [ca, cb])]
  simp only [lookB, decide_eq_true_eq] at cl
  obtain ⟨i, rfl⟩ := Int.eq_ofNat_of_zero_le cl.1.1
  obtain ⟨k, rfl⟩ := Int.eq_ofNat_of_zero_le cl.2.1
  have hi : i < t.eyes.length := by omega
  have hk : k < t.lights.length := by omega
  have e2 : seesR t (i : Int) (k : Int) a b = seesN t.eyes[i].s t.lights[k] a b := by
    unfold seesR seesI
    rw [if_pos e1, Int.toNat_natCast, Int.toNat_natCast, List.getElem?_eq_getElem hi, List.getElem?_eq_getElem hk]
  have hs := sees_ev (h := h8) s48.wf (hd.mono ((s56.trans s67).trans s78)) g hi hk (within_iff.1 ca) (within_iff.1 cb)
  simp only [encD] at hs
  simp -implicitDefEqProofs (maxSteps := 999999) (disch := first | with_reducible rfl | omega | (simp only [nA, nS, nD] <;> omega) | fail) only [go_sem, Bool.not_true, s48.cells q2, s48.cells q3, s48.cells q4]
  refine hs _ fun h9 s89 => ?_
  simp -implicitDefEqProofs (maxSteps := 999999) (disch := first | with_reducible rfl | omega | (simp only [nA, nS, nD] <;> omega) | fail) only [go_sem]
  have q' := q _ (s4.trans (s48.trans s89))
  rw [e1, e2] at q'
  exact q'
def twoE (t : Tb) (a b : Sd) : Int := if check t ≠ 0 then check t else if a.within 20 = false ∨ b.within 20 = false then 3 else 0
theorem Apart_ev {h : H} {v : V} {t : Tb} (hw : h.wf) (ht : TbIs h v t) (a b : Sd) (Q : V → H → Prop) (q : ∀ x h', h.Sub h' → SlAt h' x 2 ((if twoE t a b = 0 then apartL t a b else []).map encK) → Q (.tup [x, .int .i64 (twoE t a b)]) h') :
    Ev fnG fastA (.fn 31 [] []) [v, .agg (encD a), .agg (encD b)] h Q := by
  have ht0 := ht
  obtain ⟨E, L, P, rfl, aE, aL, aP⟩ := ht
  refine Ev_body (fd := c31) rfl rfl rfl ?_
  have s4 : h.Sub (((h.add (.cells .rw [E, L, P])).add (.cells .rw [.int .i64 a.x, .int .i64 a.y, .int .i64 a.z])).add (.cells .rw [.int .i64 b.x, .int .i64 b.y, .int .i64 b.z])) := (by repeat (first | assumption | exact H.Sub.refl (by assumption) | refine H.Sub.add ?_ _ | refine H.Sub.set ?_ (by first | omega | (simp only [H.next_add, H.next_set, H.next_del] <;> omega)) (by first | omega | (simp only [H.next_add, H.next_set, H.next_del] <;> omega)) (by assumption) _))
  have q3 : (((h.add (.cells .rw [E, L, P])).add (.cells .rw [.int .i64 a.x, .int .i64 a.y, .int .i64 a.z])).add (.cells .rw [.int .i64 b.x, .int .i64 b.y, .int .i64 b.z])).cells (h.next + 1) = some [.int .i64 a.x, .int .i64 a.y, .int .i64 a.z] := by simp -implicitDefEqProofs (maxSteps := 999999) (disch := first | with_reducible rfl | omega | (simp only [nA, nS, nD] <;> omega) | fail) only [go_sem]
  have q4 : (((h.add (.cells .rw [E, L, P])).add (.cells .rw [.int .i64 a.x, .int .i64 a.y, .int .i64 a.z])).add (.cells .rw [.int .i64 b.x, .int .i64 b.y, .int .i64 b.z])).cells (h.next + 1 + 1) = some [.int .i64 b.x, .int .i64 b.y, .int .i64 b.z] := by simp -implicitDefEqProofs (maxSteps := 999999) (disch := first | with_reducible rfl | omega | (simp only [nA, nS, nD] <;> omega) | fail) only [go_sem]
  simp -implicitDefEqProofs (maxSteps := 999999) (disch := first | with_reducible rfl | omega | (simp only [nA, nS, nD] <;> omega) | fail) only [c31, go_sem, encD]
  generalize (((h.add (.cells .rw [E, L, P])).add (.cells .rw [.int .i64 a.x, .int .i64 a.y, .int .i64 a.z])).add (.cells .rw [.int .i64 b.x, .int .i64 b.y, .int .i64 b.z])) = h4 at s4 q3 q4 ⊢
  have bad : ∀ h', h.Sub h' → ∀ e : Int, e ≠ 0 → twoE t a b = e → Q (.tup [.nils, .int .i64 e]) h' := fun h' s e he e1 => by
    have q' := q .nils _ s (by rw [e1, if_neg he]; exact (OwnSl.nil s 2).sl (by simp))
    rw [e1] at q'; exact q'
  refine opened_use s4.wf (ht0.mono s4) _ (fun h5 s45 c => ?_) fun h5 d s45 c g hd => ?_
  · simp -implicitDefEqProofs (maxSteps := 999999) (disch := first | with_reducible rfl | omega | (simp only [nA, nS, nD] <;> omega) | fail) only [go_sem, ne_eq, c, not_false_eq_true]
    exact bad _ (s4.trans s45) _ c (by unfold twoE; rw [if_pos c])
  have s5 := s4.trans s45
  have hr := fun (s : Sd) => right_ev (h := h5) s5.wf s
  simp only [encD] at hr
  simp -implicitDefEqProofs (maxSteps := 999999) (disch := first | with_reducible rfl | omega | (simp only [nA, nS, nD] <;> omega) | fail) only [go_sem, ne_eq, not_true_eq_false, s45.cells q3]
  refine hr a _ fun h7 s57 => ?_
  have s47 := s45.trans s57
  cases ca : a.within 20
  · simp -implicitDefEqProofs (maxSteps := 999999) (disch := first | with_reducible rfl | omega | (simp only [nA, nS, nD] <;> omega) | fail) only [go_sem, Bool.not_false]
    exact bad _ (s4.trans s47) 3 (by decide) (by unfold twoE; rw [if_neg (by simp [c]), if_pos (.inl ca)])
  have hr := right_ev (h := h7) s47.wf b
  simp only [encD] at hr
  simp -implicitDefEqProofs (maxSteps := 999999) (disch := first | with_reducible rfl | omega | (simp only [nA, nS, nD] <;> omega) | fail) only [go_sem, Bool.not_true, s47.cells q4]
  refine hr _ fun h8 s78 => ?_
  have s48 := s47.trans s78
  cases cb : b.within 20
  · simp -implicitDefEqProofs (maxSteps := 999999) (disch := first | with_reducible rfl | omega | (simp only [nA, nS, nD] <;> omega) | fail) only [go_sem, Bool.not_false]
    exact bad _ (s4.trans s48) 3 (by decide) (by unfold twoE; rw [if_neg (by simp [c]), if_pos (.inr cb)])
  have e1 : twoE t a b = 0 := by unfold twoE; rw [if_neg (by simp [c]), if_neg (by simp [ca, cb])]
  have hap := apart_ev (h := h8) s48.wf (hd.mono (s57.trans s78)) g (within_iff.1 ca) (within_iff.1 cb)
  simp only [encD] at hap
  simp -implicitDefEqProofs (maxSteps := 999999) (disch := first | with_reducible rfl | omega | (simp only [nA, nS, nD] <;> omega) | fail) only [go_sem, Bool.not_true, s48.cells q3, s48.cells q4]
  refine hap _ fun x h9 o _ => ?_
  have hl : (apartL t a b).length ≤ 24 := by
    unfold apartL
    split
    · simp
    · exact Nat.le_trans (apartK_len _ _ _ _) (Nat.le_trans (Nat.mul_le_mul g.eyes.2 g.lights.2) (by decide))
  simp -implicitDefEqProofs (maxSteps := 999999) (disch := first | with_reducible rfl | omega | (simp only [nA, nS, nD] <;> omega) | fail) only [go_sem]
  have q' := q x _ (s4.trans (s48.trans o.1)) (by rw [if_pos e1]; exact o.sl (by simp only [List.length_map]; omega))
  rw [e1] at q'
  exact q'
end Go.Ab.Try
