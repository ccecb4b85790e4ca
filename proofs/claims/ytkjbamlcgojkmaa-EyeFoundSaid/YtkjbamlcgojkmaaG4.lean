/- Sees, Apart, Match, Scrap. Tables copied and compared; the reference's table. The reference's table, and its errors. The reference's Check, Sees, Tells, Alike, Apart. -/
import Derived.Test.YtkjbamlcgojkmaaG2
set_option linter.unusedSimpArgs false
set_option linter.unusedVariables false
namespace Go.Ab
theorem own1_lit {h : H} {n : Int} : SlAt (h.add (.cells .rw [.int .i64 n])) (.sl h.next 0 1 (.fix 1)) 1 [[.int .i64 n]] := SlAt.new _ rfl rfl (by simp) (by simp) (by simp)
namespace Try
theorem awake_eq (h : H) (Q : V → H → Prop) : Ev fnG fastA (.fn 13 [] []) [] h Q = Q (.bool true) h := Ev.det ⟨1, .bool true, h, rfl, rfl, rfl⟩ Q
end Try
end Go.Ab
set_option linter.unusedSimpArgs false
set_option linter.unusedVariables false
namespace Go.Ab.Try
end Go.Ab.Try
set_option linter.unusedSimpArgs false
set_option linter.unusedVariables false
namespace Go.Ab
end Go.Ab
namespace Go.Ab.Try
def tellsE (t : Tb) (i : Nat) (a b : Sd) : Bool := (List.range t.lights.length).any fun k => tellsAt t a b i k
theorem tellsAt_eq {t : Tb} {a b : Sd} {i k : Nat} (hi : i < t.eyes.length) (hk : k < t.lights.length) : tellsAt t a b i k = decide (t.eyes[i].frm ≤ seesN t.eyes[i].s t.lights[k] a b) := by
  unfold tellsAt; rw [List.getElem?_eq_getElem hi, List.getElem?_eq_getElem hk]
theorem any_range_step {p : Nat → Bool} (n : Nat) : (List.range (n + 1)).any p = ((List.range n).any p || p n) := by
  rw [List.range_succ, List.any_append]; simp
theorem any_range_hit {p : Nat → Bool} {n k : Nat} (h : k < n) (hp : p k = true) : (List.range n).any p = true := List.any_eq_true.2 ⟨k, List.mem_range.2 h, hp⟩
theorem seesN_self (e l a : Sd) : seesN e l a a = 0 := by
  have : ∀ i, part e l a a i = 0 := fun i => by
    induction i with
    | zero => rfl
    | succ i ih => simp only [part, ih, term, dif]; simp
  exact this 3
theorem apartK_nil (t : Tb) (a b : Sd) : ∀ n, apartK t a b n = [] ↔ ∀ m, m < n → tellsAt t a b (m / t.lights.length) (m % t.lights.length) = false
  | 0 => by simp [apartK]
  | n + 1 => by
    have ih := apartK_nil t a b n
    simp only [apartK, List.append_eq_nil_iff, ih]
    constructor
    · rintro ⟨h1, h2⟩ m hm
      by_cases e : m = n
      · subst e
        cases hc : tellsAt t a b (m / t.lights.length) (m % t.lights.length)
        · rfl
        · rw [hc] at h2; simp at h2
      · exact h1 m (by omega)
    · intro hh
      exact ⟨fun m hm => hh m (by omega), by rw [hh n (by omega)]; rfl⟩
theorem tells_self {t : Tb} (g : Good t) (a : Sd) (i k : Nat) : tellsAt t a a i k = false := by
  unfold tellsAt
  split
  · rename_i e l he hl
    have := (g.eye e (List.mem_of_getElem? he)).2.1
    rw [seesN_self]; simp; omega
  · rfl
theorem apartL_eq {t : Tb} (g : Good t) (a b : Sd) : apartL t a b = apartK t a b (t.eyes.length * t.lights.length) := by
  unfold apartL
  split
  · rename_i e
    subst e
    exact ((apartK_nil t a a _).2 fun m _ => tells_self g a _ _).symm
  · rfl
theorem alike_iff {t : Tb} (g : Good t) (a b : Sd) : alike t a b = true ↔ ∀ i k, i < t.eyes.length → k < t.lights.length → tellsAt t a b i k = false := by
  unfold alike
  rw [List.isEmpty_iff, apartL_eq g, apartK_nil]
  constructor
  · intro hh i k hi hk
    have := hh (i * t.lights.length + k) (by
      have h1 := Nat.mul_le_mul_right t.lights.length hi
      rw [Nat.succ_mul] at h1; omega)
    have e1 : (i * t.lights.length + k) / t.lights.length = i := by rw [Nat.add_comm, Nat.add_mul_div_right _ _ (by omega), Nat.div_eq_of_lt hk, Nat.zero_add]
    have e2 : (i * t.lights.length + k) % t.lights.length = k := by rw [Nat.add_comm, Nat.add_mul_mod_self_right, Nat.mod_eq_of_lt hk]
    rwa [e1, e2] at this
  · intro hh m hm
    have gl := g.lights.1
    exact hh _ _ (Nat.div_lt_of_lt_mul (by rw [Nat.mul_comm]; exact hm)) (Nat.mod_lt _ (by omega))
theorem alike_all {t : Tb} (g : Good t) (a b : Sd) : alike t a b = (List.range t.eyes.length).all fun i => !tellsE t i a b := by
  rw [Bool.eq_iff_iff, alike_iff g, List.all_eq_true]
  constructor
  · intro hh i hi
    have : tellsE t i a b = false := by
      unfold tellsE
      rw [List.any_eq_false]
      intro k hk
      rw [hh i k (List.mem_range.1 hi) (List.mem_range.1 hk)]; simp
    rw [this]; rfl
  · intro hh i k hi hk
    have h1 := hh i (List.mem_range.2 hi)
    cases hc : tellsAt t a b i k
    · rfl
    · have : tellsE t i a b = true := any_range_hit hk hc
      rw [this] at h1; simp at h1
theorem dif_comm (a b : Int) : dif a b = dif b a := by unfold dif; omega
theorem seesN_comm (e l a b : Sd) : seesN e l a b = seesN e l b a := by
  have : ∀ i, part e l a b i = part e l b a i := fun i => by
    induction i with
    | zero => rfl
    | succ i ih => simp only [part, ih, term, dif_comm (a.at i) (b.at i)]
  exact this 3
theorem tellsAt_comm (t : Tb) (a b : Sd) (i k : Nat) : tellsAt t a b i k = tellsAt t b a i k := by
  unfold tellsAt
  split
  · rw [seesN_comm]
  · rfl
theorem alike_comm {t : Tb} (g : Good t) (a b : Sd) : alike t a b = alike t b a := by
  rw [Bool.eq_iff_iff, alike_iff g, alike_iff g]
  constructor <;> intro hh i k hi hk <;> rw [tellsAt_comm] <;> exact hh i k hi hk
end Go.Ab.Try
set_option linter.unusedSimpArgs false
set_option linter.unusedVariables false
namespace Go.Ab.Try
theorem opened_use {h : H} {E L P : V} {t : Tb} (hw : h.wf) (ht : TbIs h (.agg [E, L, P]) t) (Q : V → H → Prop) (q0 : ∀ h', h.Sub h' → check t ≠ 0 → Q (.tup [.nilp, .int .i64 (check t)]) h') (q1 : ∀ h' d, h.Sub h' → check t = 0 → Good t → DkAt h' d t → Q (.tup [.ptr d 0, .int .i64 0]) h') :
    Ev fnG fastA (.fn 85 [] []) [.agg [E, L, P]] h Q :=
  (opened_ev hw ht).mono fun u h' hu => by
    obtain ⟨s, hu⟩ := hu
    rcases hu with ⟨c, rfl⟩ | ⟨c, d, rfl, _, hd⟩
    · exact q0 _ s c
    · exact q1 _ d s c (check_iff.1 c) hd
def isPc (t : Tb) (p : Int) : Bool := decide (0 ≤ p ∧ p < t.pieces.length)
theorem piece_ev {h : H} {E L P : V} {t : Tb} (hw : h.wf) (ht : TbIs h (.agg [E, L, P]) t) (p : Int) (Q : V → H → Prop) (q : ∀ h', h.Sub h' → Q (.bool (isPc t p)) h') : Ev fnG fastA (.fn 86 [] []) [.agg [E, L, P], .int .i64 p] h Q := by
  obtain ⟨E', L', P', e, aE, aL, aP⟩ := ht
  cases e
  have hlP := aP.lenE
  have bP := aP.boundE
  refine Ev_body (fd := c86) rfl rfl rfl ?_
  have e : inB p 0 ((t.pieces.length : Int) - 1) = isPc t p := by unfold inB isPc; rw [Bool.eq_iff_iff]; simp; omega
  simp -implicitDefEqProofs (maxSteps := 999999) (disch := first | with_reducible rfl | omega | (simp only [nA, nS, nD] <;> omega) | fail) only [c86, go_sem, hlP, wr_in, in_ev, e]
  exact q _ ((by repeat (first | assumption | exact H.Sub.refl (by assumption) | refine H.Sub.add ?_ _ | refine H.Sub.set ?_ (by first | omega | (simp only [H.next_add, H.next_set, H.next_del] <;> omega)) (by first | omega | (simp only [H.next_add, H.next_set, H.next_del] <;> omega)) (by assumption) _)))
def matchE (t : Tb) (p r : Int) : Int := if check t ≠ 0 then check t else if isPc t p = false ∨ isPc t r = false then 1 else 0
def matchR (t : Tb) (p r : Int) : Bool := decide (matchE t p r = 0) && matchB t p.toNat r.toNat
theorem Match_ev {h : H} {v : V} {t : Tb} (hw : h.wf) (ht : TbIs h v t) (p r : Int) (Q : V → H → Prop) (q : ∀ h', h.Sub h' → Q (.tup [.bool (matchR t p r), .int .i64 (matchE t p r)]) h') :
    Ev fnG fastA (.fn 44 [] []) [v, .int .i64 p, .int .i64 r] h Q := by
  have ht0 := ht
  obtain ⟨E, L, P, rfl, aE, aL, aP⟩ := ht
  refine Ev_body (fd := c44) rfl rfl rfl ?_
  have s1 : h.Sub (h.add (.cells .rw [E, L, P])) := (by repeat (first | assumption | exact H.Sub.refl (by assumption) | refine H.Sub.add ?_ _ | refine H.Sub.set ?_ (by first | omega | (simp only [H.next_add, H.next_set, H.next_del] <;> omega)) (by first | omega | (simp only [H.next_add, H.next_set, H.next_del] <;> omega)) (by assumption) _))
  have g1 : (h.add (.cells .rw [E, L, P])).cells h.next = some [E, L, P] := cells_add_new rfl
  have bad : ∀ h', h.Sub h' → ∀ e : Int, e ≠ 0 → matchE t p r = e → Q (.tup [.bool false, .int .i64 e]) h' := fun h' s e he e1 => by
    have q' := q _ s
    unfold matchR at q'
    rw [e1, decide_eq_false he, Bool.false_and] at q'; exact q'
  simp -implicitDefEqProofs (maxSteps := 999999) (disch := first | with_reducible rfl | omega | (simp only [nA, nS, nD] <;> omega) | fail) only [c44, go_sem]
  refine opened_use s1.wf (ht0.mono s1) _ (fun h5 s45 c => ?_) fun h5 d s15 c g hd => ?_
  · simp -implicitDefEqProofs (maxSteps := 999999) (disch := first | with_reducible rfl | omega | (simp only [nA, nS, nD] <;> omega) | fail) only [go_sem, ne_eq, c, not_false_eq_true]
    exact bad _ (s1.trans s45) _ c (by unfold matchE; rw [if_pos c])
  have s5 := s1.trans s15
  simp -implicitDefEqProofs (maxSteps := 999999) (disch := first | with_reducible rfl | omega | (simp only [nA, nS, nD] <;> omega) | fail) only [go_sem, ne_eq, not_true_eq_false, s15.cells g1]
  refine piece_ev s5.wf (ht0.mono s5) p _ fun h6 s56 => ?_
  have s6 := s5.trans s56
  cases cp : isPc t p
  · simp -implicitDefEqProofs (maxSteps := 999999) (disch := first | with_reducible rfl | omega | (simp only [nA, nS, nD] <;> omega) | fail) only [go_sem, Bool.not_false]
    exact bad _ s6 1 (by decide) (by unfold matchE; rw [if_neg (by simp [c]), if_pos (.inl cp)])
  simp -implicitDefEqProofs (maxSteps := 999999) (disch := first | with_reducible rfl | omega | (simp only [nA, nS, nD] <;> omega) | fail) only [go_sem, Bool.not_true, (s15.trans s56).cells g1]
  refine piece_ev s6.wf (ht0.mono s6) r _ fun h7 s67 => ?_
  have s7 := s6.trans s67
  cases cr : isPc t r
  · simp -implicitDefEqProofs (maxSteps := 999999) (disch := first | with_reducible rfl | omega | (simp only [nA, nS, nD] <;> omega) | fail) only [go_sem, Bool.not_false]
    exact bad _ s7 1 (by decide) (by unfold matchE; rw [if_neg (by simp [c]), if_pos (.inr cr)])
  have e1 : matchE t p r = 0 := by unfold matchE; rw [if_neg (by simp [c]), if_neg (by simp [cp, cr])]
  simp only [isPc, decide_eq_true_eq] at cp cr
  obtain ⟨i, rfl⟩ := Int.eq_ofNat_of_zero_le cp.1
  obtain ⟨k, rfl⟩ := Int.eq_ofNat_of_zero_le cr.1
  simp -implicitDefEqProofs (maxSteps := 999999) (disch := first | with_reducible rfl | omega | (simp only [nA, nS, nD] <;> omega) | fail) only [go_sem, Bool.not_true]
  refine match_ev s7.wf (hd.mono (s56.trans s67)) g (by omega) (by omega) _ fun h8 s78 => ?_
  simp -implicitDefEqProofs (maxSteps := 999999) (disch := first | with_reducible rfl | omega | (simp only [nA, nS, nD] <;> omega) | fail) only [go_sem]
  have q' := q _ (s7.trans s78)
  unfold matchR at q'
  rw [e1] at q'
  simpa using q'
def scrapK (t : Tb) (s : Sd) : Nat → List Int
  | 0 => []
  | n + 1 => scrapK t s n ++ if (match t.pieces[n]? with | some p => alike t s p | none => false) = true then [(n : Int)] else []
theorem scrapK_len (t : Tb) (s : Sd) : ∀ n, (scrapK t s n).length ≤ n
  | 0 => Nat.le_refl _
  | n + 1 => by
    have := scrapK_len t s n
    simp only [scrapK, List.length_append]
    split <;> (split <;> simp <;> omega)
theorem scrapK_step {t : Tb} {s : Sd} {n : Nat} (hn : n < t.pieces.length) : scrapK t s (n + 1) = scrapK t s n ++ if alike t s t.pieces[n] = true then [(n : Int)] else [] := by
  simp only [scrapK, List.getElem?_eq_getElem hn]
def oneE (t : Tb) (s : Sd) : Int := if check t ≠ 0 then check t else if s.within 20 = false then 3 else 0
def scrapR (t : Tb) (s : Sd) : List Int := if oneE t s = 0 then scrapK t s t.pieces.length else []
theorem Scrap_own {h : H} {v : V} {t : Tb} (hw : h.wf) (ht : TbIs h v t) (a : Sd) (Q : V → H → Prop) (q : ∀ x h', h.Sub h' → OwnC h h' x 1 ((scrapR t a).map encI) → Q (.tup [x, .int .i64 (oneE t a)]) h') :
    Ev fnG fastA (.fn 45 [] []) [v, .agg (encD a)] h Q := by
  have ht0 := ht
  obtain ⟨E, L, P, rfl, aE, aL, aP⟩ := ht
  have hlP := aP.lenE
  refine Ev_body (fd := c45) rfl rfl rfl ?_
  have s4 : h.Sub ((h.add (.cells .rw [E, L, P])).add (.cells .rw [.int .i64 a.x, .int .i64 a.y, .int .i64 a.z])) := (by repeat (first | assumption | exact H.Sub.refl (by assumption) | refine H.Sub.add ?_ _ | refine H.Sub.set ?_ (by first | omega | (simp only [H.next_add, H.next_set, H.next_del] <;> omega)) (by first | omega | (simp only [H.next_add, H.next_set, H.next_del] <;> omega)) (by assumption) _))
  have q3 : ((h.add (.cells .rw [E, L, P])).add (.cells .rw [.int .i64 a.x, .int .i64 a.y, .int .i64 a.z])).cells h.next = some [E, L, P] := by simp -implicitDefEqProofs (maxSteps := 999999) (disch := first | with_reducible rfl | omega | (simp only [nA, nS, nD] <;> omega) | fail) only [go_sem]
  have q4 : ((h.add (.cells .rw [E, L, P])).add (.cells .rw [.int .i64 a.x, .int .i64 a.y, .int .i64 a.z])).cells (h.next + 1) = some [.int .i64 a.x, .int .i64 a.y, .int .i64 a.z] := by simp -implicitDefEqProofs (maxSteps := 999999) (disch := first | with_reducible rfl | omega | (simp only [nA, nS, nD] <;> omega) | fail) only [go_sem]
  simp -implicitDefEqProofs (maxSteps := 999999) (disch := first | with_reducible rfl | omega | (simp only [nA, nS, nD] <;> omega) | fail) only [c45, go_sem, encD]
  generalize ((h.add (.cells .rw [E, L, P])).add (.cells .rw [.int .i64 a.x, .int .i64 a.y, .int .i64 a.z])) = h4 at s4 q3 q4 ⊢
  have bad : ∀ h', h.Sub h' → ∀ e : Int, e ≠ 0 → oneE t a = e → Q (.tup [.nils, .int .i64 e]) h' := fun h' s e he e1 => by
    have q' := q .nils _ s (by unfold scrapR; rw [e1, if_neg he]; exact (OwnSl.nil s 1).c)
    rw [e1] at q'; exact q'
  refine opened_use s4.wf (ht0.mono s4) _ (fun h5 s45 c => ?_) fun h5 d s45 c g hd => ?_
  · simp -implicitDefEqProofs (maxSteps := 999999) (disch := first | with_reducible rfl | omega | (simp only [nA, nS, nD] <;> omega) | fail) only [go_sem, ne_eq, c, not_false_eq_true]
    exact bad _ (s4.trans s45) _ c (by unfold oneE; rw [if_pos c])
  have s5 := s4.trans s45
  have hr := right_ev (h := h5) s5.wf a
  simp only [encD] at hr
  simp -implicitDefEqProofs (maxSteps := 999999) (disch := first | with_reducible rfl | omega | (simp only [nA, nS, nD] <;> omega) | fail) only [go_sem, ne_eq, not_true_eq_false, s45.cells q4]
  refine hr _ fun h7 s57 => ?_
  have s47 := s45.trans s57
  have s7 := s4.trans s47
  cases ca : a.within 20
  · simp -implicitDefEqProofs (maxSteps := 999999) (disch := first | with_reducible rfl | omega | (simp only [nA, nS, nD] <;> omega) | fail) only [go_sem, Bool.not_false]
    exact bad _ s7 3 (by decide) (by unfold oneE; rw [if_neg (by simp [c]), if_pos ca])
  have e1 : oneE t a = 0 := by unfold oneE; rw [if_neg (by simp [c]), if_neg (by simp [ca])]
  have gp := g.pieces
  have hd7 := hd.mono s57
  simp -implicitDefEqProofs (maxSteps := 999999) (disch := first | with_reducible rfl | omega | (simp only [nA, nS, nD] <;> omega) | fail) only [go_sem, Bool.not_true, s47.cells q3, hlP]
  refine W_count t.pieces.length (fun n s => ∃ tm h' y, s = ⟨tm, h', []⟩ ∧ OwnSl h7 h' y 1 ((scrapK t a n).map encI) ∧ (Opd.t 3).ev tm = .ptr (h.next + 1) 0 ∧ (Opd.t 6).ev tm = .ptr d 0 ∧ (Opd.t 8).ev tm = y ∧ (Opd.t 25).ev tm = P ∧ (Opd.t 26).ev tm = .int .i64 (t.pieces.length : Int) ∧ (Opd.t 27).ev tm = .int .i64 (n : Int))
    ?_ ?_ (i := 0) (Nat.zero_le _) ⟨_, _, .nils, rfl, OwnSl.nil (H.Sub.refl s7.wf) 1, (by simp [ev_c, ev_put] <;> rfl), (by simp [ev_c, ev_put] <;> rfl), (by simp [ev_c, ev_put] <;> rfl), (by simp [ev_c, ev_put] <;> rfl), (by simp [ev_c, ev_put] <;> rfl), (by simp [ev_c, ev_put] <;> rfl)⟩
  · rintro n s hn ⟨tm, h', y, rfl, oy, t3, t6, t8, t25, t26, t27⟩
    have hn' : (n : Int) < (t.pieces.length : Int) := by omega
    have s7' := oy.1
    have hs := s7.trans s7'
    obtain ⟨bP, oP, cP, csP, eP, hcP, hqP, hgP, _, _⟩ := (aP.mono hs).at hn
    obtain ⟨e, ee⟩ : ∃ e, t.pieces[n] = e := ⟨_, rfl⟩
    have hst := scrapK_step (s := a) hn
    have hep := g.piece _ (List.getElem_mem hn)
    rw [ee] at hgP hst hep
    simp only [encD] at hgP
    have sB := (H.Sub.refl hs.wf).add (.cells .rw [.int .i64 e.x, .int .i64 e.y, .int .i64 e.z])
    have gB : (h'.add (.cells .rw [.int .i64 e.x, .int .i64 e.y, .int .i64 e.z])).cells h'.next = some [.int .i64 e.x, .int .i64 e.y, .int .i64 e.z] := cells_add_new rfl
    have hal := alike_ev (h := h'.add (.cells .rw [.int .i64 e.x, .int .i64 e.y, .int .i64 e.z])) sB.wf ((hd7.mono s7').mono sB) g (within_iff.1 ca) hep
    simp only [encD] at hal
    have r4 := sB.cells (s7'.cells (s47.cells q4))
    simp -implicitDefEqProofs (maxSteps := 999999) (disch := first | with_reducible rfl | omega | (simp only [nA, nS, nD] <;> omega) | fail) only [go_sem, t3, t6, t8, t25, t26, t27, hn', hqP (nat_cst n), hcP, hgP, r4]
    refine hal _ fun h8 s8 => ?_
    have sA := sB.trans s8
    cases hc : alike t a e
    · rw [hc] at hst
      simp only [Bool.false_eq_true, ↓reduceIte, List.append_nil] at hst
      simp -implicitDefEqProofs (maxSteps := 999999) (disch := first | with_reducible rfl | omega | (simp only [nA, nS, nD] <;> omega) | fail) only [go_sem, t3, t6, t8, t25, t26, t27, wr_succ]
      exact ⟨_, _, y, rfl, by rw [hst]; exact oy.mono sA, (by simp [ev_c, ev_put, t3] <;> rfl), (by simp [ev_c, ev_put, t6] <;> rfl), (by simp [ev_c, ev_put, t8] <;> rfl), (by simp [ev_c, ev_put, t25] <;> rfl), (by simp [ev_c, ev_put, t26] <;> rfl), (by simp [ev_c, ev_put] <;> rfl)⟩
    · rw [hc] at hst
      simp only [↓reduceIte] at hst
      have hsl := scrapK_len t a n
      have oy8 := oy.mono sA
      have sC := (H.Sub.refl sA.wf).add (.cells .rw [.int .i64 (n : Int)])
      simp -implicitDefEqProofs (maxSteps := 999999) (disch := first | with_reducible rfl | omega | (simp only [nA, nS, nD] <;> omega) | fail) only [go_sem, t3, t6, t8, t25, t26, t27]
      refine (oy8.mono sC).app1 (by_ := 8) (r := encI (n : Int)) s7.wf rfl (by omega) own1_lit rfl (by simp only [List.length_map]; omega) (by simp only [List.length_map]; omega) fun h9 o9 k9 n9 => ?_
      rw [H.next_add] at o9
      simp -implicitDefEqProofs (maxSteps := 999999) (disch := first | with_reducible rfl | omega | (simp only [nA, nS, nD] <;> omega) | fail) only [go_sem, t3, t6, t8, t25, t26, t27, wr_succ]
      exact ⟨_, _, _, rfl, by rw [hst, List.map_append]; exact (show OwnSl h7 h9 _ 1 ((scrapK t a n).map encI ++ [encI (n : Int)]) from o9), (by simp [ev_c, ev_put, t3] <;> rfl), (by simp [ev_c, ev_put, t6] <;> rfl), (by simp [ev_c, ev_put] <;> rfl), (by simp [ev_c, ev_put, t25] <;> rfl), (by simp [ev_c, ev_put, t26] <;> rfl), (by simp [ev_c, ev_put] <;> rfl)⟩
  · rintro s ⟨tm, h', y, rfl, oy, t3, t6, t8, t25, t26, t27⟩
    have hsl := scrapK_len t a t.pieces.length
    simp -implicitDefEqProofs (maxSteps := 999999) (disch := first | with_reducible rfl | omega | (simp only [nA, nS, nD] <;> omega) | fail) only [go_sem, t3, t6, t8, t25, t26, t27, Int.lt_irrefl]
    have q' := q y _ (s7.trans oy.1) (by unfold scrapR; rw [if_pos e1]; exact oy.c.base s7)
    rw [e1] at q'; exact q'
theorem scrapR_len (t : Tb) (a : Sd) : (scrapR t a).length ≤ 9 := by
  unfold scrapR
  split
  · rename_i h
    have c : check t = 0 := by
      by_cases c : check t = 0
      · exact c
      · unfold oneE at h; rw [if_pos c] at h; exact absurd h c
    have := scrapK_len t a t.pieces.length
    have := (check_iff.1 c).pieces
    omega
  · simp
theorem Scrap_ev {h : H} {v : V} {t : Tb} (hw : h.wf) (ht : TbIs h v t) (a : Sd) (Q : V → H → Prop) (q : ∀ x h', h.Sub h' → SlAt h' x 1 ((scrapR t a).map encI) → Q (.tup [x, .int .i64 (oneE t a)]) h') :
    Ev fnG fastA (.fn 45 [] []) [v, .agg (encD a)] h Q :=
  Scrap_own hw ht a Q fun x h' s o => q x h' s (o.sl (by have := scrapR_len t a; simp only [List.length_map]; omega))
end Go.Ab.Try
