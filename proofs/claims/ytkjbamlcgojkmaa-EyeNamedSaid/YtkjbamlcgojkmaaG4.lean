/- Sees, Apart, Match, Scrap. Tables copied and compared; the reference's table. The reference's table, and its errors. The reference's Check, Sees, Tells, Alike, Apart. -/
import Derived.Test.YtkjbamlcgojkmaaG2
set_option linter.unusedSimpArgs false
set_option linter.unusedVariables false
namespace Go.Ab
theorem own1_lit {h : H} {n : Int} : SlAt (h.add (.cells .rw [.int .i64 n])) (.sl h.next 0 1 (.fix 1)) 1 [[.int .i64 n]] := SlAt.new _ rfl rfl (by simp) (by simp) (by simp)
namespace Try
theorem awake_eq (h : H) (Q : V → H → Prop) : Ev fnG fastA (.fn 13 [] []) [] h Q = Q (.bool true) h := Ev.det ⟨1, .bool true, h, rfl, rfl, rfl⟩ Q
theorem allOne_flat {α : Type} {enc : α → List V} (h : ∀ a, allOne (enc a) = true) (l : List α) : allOne (l.map enc).flatten = true := by
  rw [allOne_eq]
  intro v hv
  obtain ⟨r, hr, hvr⟩ := List.mem_flatten.1 hv
  obtain ⟨a, _, rfl⟩ := List.mem_map.1 hr
  exact allOne_eq.1 (h a) v hvr
theorem dupEye_ev {h : H} {x : V} {l : List Ey} (hw : h.wf) (hx : SlAt h x 4 (l.map encE)) (hl : l.length ≤ 1000000) (Q : V → H → Prop) :
    Ev fnG fastA (.fn 77 [] []) [x] h Q = Q (.sl h.next 0 l.length (.fix l.length)) (h.add (.cells .rw (l.map encE).flatten)) := by
  refine Ev.det (Ev_body (fd := c77) rfl rfl rfl ?_) Q
  simp -implicitDefEqProofs (maxSteps := 999999) (disch := first | with_reducible rfl | omega | (simp only [nA, nS, nD] <;> omega) | fail) only [c77, go_sem, hx.lenE, a_msl_0n]
  have := dup_core (by_ := 32) (z := [.int .i64 0, .int .i64 0, .int .i64 0, .int .i64 0]) hx hw rfl (by omega) (allOne_flat (fun a => rfl) l)
  rw [List.length_map] at this
  simp -implicitDefEqProofs (maxSteps := 999999) (disch := first | with_reducible rfl | omega | (simp only [nA, nS, nD] <;> omega) | fail) only [go_sem, this]
theorem dupLight_ev {h : H} {x : V} {l : List Sd} (hw : h.wf) (hx : SlAt h x 3 (l.map encD)) (hl : l.length ≤ 1000000) (Q : V → H → Prop) :
    Ev fnG fastA (.fn 78 [] []) [x] h Q = Q (.sl h.next 0 l.length (.fix l.length)) (h.add (.cells .rw (l.map encD).flatten)) := by
  refine Ev.det (Ev_body (fd := c78) rfl rfl rfl ?_) Q
  simp -implicitDefEqProofs (maxSteps := 999999) (disch := first | with_reducible rfl | omega | (simp only [nA, nS, nD] <;> omega) | fail) only [c78, go_sem, hx.lenE, a_msl_0n]
  have := dup_core (by_ := 24) (z := [.int .i64 0, .int .i64 0, .int .i64 0]) hx hw rfl (by omega) (allOne_flat (fun a => rfl) l)
  rw [List.length_map] at this
  simp -implicitDefEqProofs (maxSteps := 999999) (disch := first | with_reducible rfl | omega | (simp only [nA, nS, nD] <;> omega) | fail) only [go_sem, this]
theorem dupShade_ev {h : H} {x : V} {l : List Sd} (hw : h.wf) (hx : SlAt h x 3 (l.map encD)) (hl : l.length ≤ 1000000) (Q : V → H → Prop) :
    Ev fnG fastA (.fn 79 [] []) [x] h Q = Q (.sl h.next 0 l.length (.fix l.length)) (h.add (.cells .rw (l.map encD).flatten)) := by
  refine Ev.det (Ev_body (fd := c79) rfl rfl rfl ?_) Q
  simp -implicitDefEqProofs (maxSteps := 999999) (disch := first | with_reducible rfl | omega | (simp only [nA, nS, nD] <;> omega) | fail) only [c79, go_sem, hx.lenE, a_msl_0n]
  have := dup_core (by_ := 24) (z := [.int .i64 0, .int .i64 0, .int .i64 0]) hx hw rfl (by omega) (allOne_flat (fun a => rfl) l)
  rw [List.length_map] at this
  simp -implicitDefEqProofs (maxSteps := 999999) (disch := first | with_reducible rfl | omega | (simp only [nA, nS, nD] <;> omega) | fail) only [go_sem, this]
theorem SlAt.full {h : H} {b n : Nat} {k : Kd} {c : Cap} {sz : Nat} {rows : List (List V)} (hn : n = rows.length) (hb : h.get b = some (.cells k rows.flatten)) (hsz : ∀ r ∈ rows, r.length = sz) (hl : rows.length ≤ 1000000) : SlAt h (.sl b 0 n c) sz rows := by
  subst hn
  refine ⟨hsz, by omega, .inr ⟨b, 0, c, _, rfl, .inr (cells_of hb), getN_eq.2 ⟨?_, ?_⟩⟩⟩
  · rw [List.drop_zero, ← flatten_len hsz, List.take_length]
  · rw [flatten_len hsz]; omega
def TbNew (h0 h : H) (v : V) (t : Tb) : Prop := ∃ a b c, v = .agg [.sl a 0 t.eyes.length (.fix t.eyes.length), .sl b 0 t.lights.length (.fix t.lights.length), .sl c 0 t.pieces.length (.fix t.pieces.length)] ∧ (h0.next ≤ a ∧ a < h.next) ∧ (h0.next ≤ b ∧ b < h.next) ∧ (h0.next ≤ c ∧ c < h.next) ∧
  (a ≠ b ∧ a ≠ c ∧ b ≠ c) ∧ h.get a = some (.cells .rw (t.eyes.map encE).flatten) ∧ h.get b = some (.cells .rw (t.lights.map encD).flatten) ∧ h.get c = some (.cells .rw (t.pieces.map encD).flatten)
def Small (t : Tb) : Prop := t.eyes.length ≤ 1000 ∧ t.lights.length ≤ 1000 ∧ t.pieces.length ≤ 1000
theorem TbNew.is {h0 h : H} {v : V} {t : Tb} (a : TbNew h0 h v t) (hl : Small t) : TbIs h v t := by
  obtain ⟨a, b, c, rfl, _, _, _, _, g1, g2, g3⟩ := a
  have := hl.1
  have := hl.2.1
  have := hl.2.2
  exact ⟨_, _, _, rfl, SlAt.full (by simp) g1 (by simp [encE]) (by simp; omega), SlAt.full (by simp) g2 (by simp [encD]) (by simp; omega), SlAt.full (by simp) g3 (by simp [encD]) (by simp; omega)⟩
theorem own_ev {h : H} {v : V} {t : Tb} (hw : h.wf) (ht : TbIs h v t) (hl : Small t) (Q : V → H → Prop) (q : ∀ u h', h.Sub h' → TbNew h h' u t → Q u h') : Ev fnG fastA (.fn 14 [] []) [v] h Q := by
  obtain ⟨E, L, P, rfl, aE, aL, aP⟩ := ht
  obtain ⟨l1, l2, l3⟩ := hl
  refine Ev_body (fd := c14) rfl rfl rfl ?_
  have s2 : h.Sub ((h.add (.cells .rw [E, L, P])).add (.cells .rw [.nils, .nils, .nils])) := (by repeat (first | assumption | exact H.Sub.refl (by assumption) | refine H.Sub.add ?_ _ | refine H.Sub.set ?_ (by first | omega | (simp only [H.next_add, H.next_set, H.next_del] <;> omega)) (by first | omega | (simp only [H.next_add, H.next_set, H.next_del] <;> omega)) (by assumption) _))
  have s3 := s2.add (.cells .rw (t.eyes.map encE).flatten)
  have s4 := s3.add (.cells .rw (t.lights.map encD).flatten)
  have s5 := s4.add (.cells .rw (t.pieces.map encD).flatten)
  simp -implicitDefEqProofs (maxSteps := 999999) (disch := first | with_reducible rfl | omega | (simp only [nA, nS, nD] <;> omega) | fail) only [c14, go_sem, dupEye_ev s2.wf (aE.mono s2) (by omega), dupLight_ev s3.wf (aL.mono s3) (by omega), dupShade_ev s4.wf (aP.mono s4) (by omega), evQ_ld]
  refine q _ _ ((by repeat (first | assumption | exact H.Sub.refl (by assumption) | refine H.Sub.add ?_ _ | refine H.Sub.set ?_ (by first | omega | (simp only [H.next_add, H.next_set, H.next_del] <;> omega)) (by first | omega | (simp only [H.next_add, H.next_set, H.next_del] <;> omega)) (by assumption) _))) ⟨h.next + 1 + 1, h.next + 1 + 1 + 1, h.next + 1 + 1 + 1 + 1, rfl, ⟨by omega, by simp only [H.next_set, H.next_add]; omega⟩, ⟨by omega, by simp only [H.next_set, H.next_add]; omega⟩, ⟨by omega, by simp only [H.next_set, H.next_add]; omega⟩, by omega, ?_, ?_, ?_⟩
  all_goals simp -implicitDefEqProofs (maxSteps := 999999) (disch := first | with_reducible rfl | omega | (simp only [nA, nS, nD] <;> omega) | fail) only [go_sem]
end Try
end Go.Ab
set_option linter.unusedSimpArgs false
set_option linter.unusedVariables false
namespace Go.Ab.Try
end Go.Ab.Try
set_option linter.unusedSimpArgs false
set_option linter.unusedVariables false
namespace Go.Ab
end Go.Ab
namespace Go.Ab.Try
def tellsE (t : Tb) (i : Nat) (a b : Sd) : Bool := (List.range t.lights.length).any fun k => tellsAt t a b i k
theorem tellsAt_eq {t : Tb} {a b : Sd} {i k : Nat} (hi : i < t.eyes.length) (hk : k < t.lights.length) : tellsAt t a b i k = decide (t.eyes[i].frm ≤ seesN t.eyes[i].s t.lights[k] a b) := by
  unfold tellsAt; rw [List.getElem?_eq_getElem hi, List.getElem?_eq_getElem hk]
theorem any_range_step {p : Nat → Bool} (n : Nat) : (List.range (n + 1)).any p = ((List.range n).any p || p n) := by
  rw [List.range_succ, List.any_append]; simp
theorem any_range_hit {p : Nat → Bool} {n k : Nat} (h : k < n) (hp : p k = true) : (List.range n).any p = true := List.any_eq_true.2 ⟨k, List.mem_range.2 h, hp⟩
theorem seesN_self (e l a : Sd) : seesN e l a a = 0 := by
  have : ∀ i, part e l a a i = 0 := fun i => by
    induction i with
    | zero => rfl
    | succ i ih => simp only [part, ih, term, dif]; simp
  exact this 3
theorem apartK_nil (t : Tb) (a b : Sd) : ∀ n, apartK t a b n = [] ↔ ∀ m, m < n → tellsAt t a b (m / t.lights.length) (m % t.lights.length) = false
  | 0 => by simp [apartK]
  | n + 1 => by
    have ih := apartK_nil t a b n
    simp only [apartK, List.append_eq_nil_iff, ih]
    constructor
    · rintro ⟨h1, h2⟩ m hm
      by_cases e : m = n
      · subst e
        cases hc : tellsAt t a b (m / t.lights.length) (m % t.lights.length)
        · rfl
        · rw [hc] at h2; simp at h2
      · exact h1 m (by omega)
    · intro hh
      exact ⟨fun m hm => hh m (by omega), by rw [hh n (by omega)]; rfl⟩
theorem tells_self {t : Tb} (g : Good t) (a : Sd) (i k : Nat) : tellsAt t a a i k = false := by
  unfold tellsAt
  split
  · rename_i e l he hl
    have := (g.eye e (List.mem_of_getElem? he)).2.1
    rw [seesN_self]; simp; omega
  · rfl
theorem apartL_eq {t : Tb} (g : Good t) (a b : Sd) : apartL t a b = apartK t a b (t.eyes.length * t.lights.length) := by
  unfold apartL
  split
  · rename_i e
    subst e
    exact ((apartK_nil t a a _).2 fun m _ => tells_self g a _ _).symm
  · rfl
theorem alike_iff {t : Tb} (g : Good t) (a b : Sd) : alike t a b = true ↔ ∀ i k, i < t.eyes.length → k < t.lights.length → tellsAt t a b i k = false := by
  unfold alike
  rw [List.isEmpty_iff, apartL_eq g, apartK_nil]
  constructor
  · intro hh i k hi hk
    have := hh (i * t.lights.length + k) (by
      have h1 := Nat.mul_le_mul_right t.lights.length hi
      rw [Nat.succ_mul] at h1; omega)
    have e1 : (i * t.lights.length + k) / t.lights.length = i := by rw [Nat.add_comm, Nat.add_mul_div_right _ _ (by omega), Nat.div_eq_of_lt hk, Nat.zero_add]
    have e2 : (i * t.lights.length + k) % t.lights.length = k := by rw [Nat.add_comm, Nat.add_mul_mod_self_right, Nat.mod_eq_of_lt hk]
    rwa [e1, e2] at this
  · intro hh m hm
    have gl := g.lights.1
    exact hh _ _ (Nat.div_lt_of_lt_mul (by rw [Nat.mul_comm]; exact hm)) (Nat.mod_lt _ (by omega))
theorem alike_all {t : Tb} (g : Good t) (a b : Sd) : alike t a b = (List.range t.eyes.length).all fun i => !tellsE t i a b := by
  rw [Bool.eq_iff_iff, alike_iff g, List.all_eq_true]
  constructor
  · intro hh i hi
    have : tellsE t i a b = false := by
      unfold tellsE
      rw [List.any_eq_false]
      intro k hk
      rw [hh i k (List.mem_range.1 hi) (List.mem_range.1 hk)]; simp
    rw [this]; rfl
  · intro hh i k hi hk
    have h1 := hh i (List.mem_range.2 hi)
    cases hc : tellsAt t a b i k
    · rfl
    · have : tellsE t i a b = true := any_range_hit hk hc
      rw [this] at h1; simp at h1
theorem dif_comm (a b : Int) : dif a b = dif b a := by unfold dif; omega
theorem seesN_comm (e l a b : Sd) : seesN e l a b = seesN e l b a := by
  have : ∀ i, part e l a b i = part e l b a i := fun i => by
    induction i with
    | zero => rfl
    | succ i ih => simp only [part, ih, term, dif_comm (a.at i) (b.at i)]
  exact this 3
theorem tellsAt_comm (t : Tb) (a b : Sd) (i k : Nat) : tellsAt t a b i k = tellsAt t b a i k := by
  unfold tellsAt
  split
  · rw [seesN_comm]
  · rfl
theorem alike_comm {t : Tb} (g : Good t) (a b : Sd) : alike t a b = alike t b a := by
  rw [Bool.eq_iff_iff, alike_iff g, alike_iff g]
  constructor <;> intro hh i k hi hk <;> rw [tellsAt_comm] <;> exact hh i k hi hk
end Go.Ab.Try
set_option linter.unusedSimpArgs false
set_option linter.unusedVariables false
namespace Go.Ab.Try
theorem opened_use {h : H} {E L P : V} {t : Tb} (hw : h.wf) (ht : TbIs h (.agg [E, L, P]) t) (Q : V → H → Prop) (q0 : ∀ h', h.Sub h' → check t ≠ 0 → Q (.tup [.nilp, .int .i64 (check t)]) h') (q1 : ∀ h' d, h.Sub h' → check t = 0 → Good t → DkAt h' d t → Q (.tup [.ptr d 0, .int .i64 0]) h') :
    Ev fnG fastA (.fn 85 [] []) [.agg [E, L, P]] h Q :=
  (opened_ev hw ht).mono fun u h' hu => by
    obtain ⟨s, hu⟩ := hu
    rcases hu with ⟨c, rfl⟩ | ⟨c, d, rfl, _, hd⟩
    · exact q0 _ s c
    · exact q1 _ d s c (check_iff.1 c) hd
def isPc (t : Tb) (p : Int) : Bool := decide (0 ≤ p ∧ p < t.pieces.length)
theorem piece_ev {h : H} {E L P : V} {t : Tb} (hw : h.wf) (ht : TbIs h (.agg [E, L, P]) t) (p : Int) (Q : V → H → Prop) (q : ∀ h', h.Sub h' → Q (.bool (isPc t p)) h') : Ev fnG fastA (.fn 86 [] []) [.agg [E, L, P], .int .i64 p] h Q := by
  obtain ⟨E', L', P', e, aE, aL, aP⟩ := ht
  cases e
  have hlP := aP.lenE
  have bP := aP.boundE
  refine Ev_body (fd := c86) rfl rfl rfl ?_
  have e : inB p 0 ((t.pieces.length : Int) - 1) = isPc t p := by unfold inB isPc; rw [Bool.eq_iff_iff]; simp; omega
  simp -implicitDefEqProofs (maxSteps := 999999) (disch := first | with_reducible rfl | omega | (simp only [nA, nS, nD] <;> omega) | fail) only [c86, go_sem, hlP, wr_in, in_ev, e]
  exact q _ ((by repeat (first | assumption | exact H.Sub.refl (by assumption) | refine H.Sub.add ?_ _ | refine H.Sub.set ?_ (by first | omega | (simp only [H.next_add, H.next_set, H.next_del] <;> omega)) (by first | omega | (simp only [H.next_add, H.next_set, H.next_del] <;> omega)) (by assumption) _)))
def matchE (t : Tb) (p r : Int) : Int := if check t ≠ 0 then check t else if isPc t p = false ∨ isPc t r = false then 1 else 0
def matchR (t : Tb) (p r : Int) : Bool := decide (matchE t p r = 0) && matchB t p.toNat r.toNat
theorem Match_ev {h : H} {v : V} {t : Tb} (hw : h.wf) (ht : TbIs h v t) (p r : Int) (Q : V → H → Prop) (q : ∀ h', h.Sub h' → Q (.tup [.bool (matchR t p r), .int .i64 (matchE t p r)]) h') :
    Ev fnG fastA (.fn 44 [] []) [v, .int .i64 p, .int .i64 r] h Q := by
  have ht0 := ht
  obtain ⟨E, L, P, rfl, aE, aL, aP⟩ := ht
  refine Ev_body (fd := c44) rfl rfl rfl ?_
  have s1 : h.Sub (h.add (.cells .rw [E, L, P])) := (by repeat (first | assumption | exact H.Sub.refl (by assumption) | refine H.Sub.add ?_ _ | refine H.Sub.set ?_ (by first | omega | (simp only [H.next_add, H.next_set, H.next_del] <;> omega)) (by first | omega | (simp only [H.next_add, H.next_set, H.next_del] <;> omega)) (by assumption) _))
  have g1 : (h.add (.cells .rw [E, L, P])).cells h.next = some [E, L, P] := cells_add_new rfl
  have bad : ∀ h', h.Sub h' → ∀ e : Int, e ≠ 0 → matchE t p r = e → Q (.tup [.bool false, .int .i64 e]) h' := fun h' s e he e1 => by
    have q' := q _ s
    unfold matchR at q'
    rw [e1, decide_eq_false he, Bool.false_and] at q'; exact q'
  simp -implicitDefEqProofs (maxSteps := 999999) (disch := first | with_reducible rfl | omega | (simp only [nA, nS, nD] <;> omega) | fail) only [c44, go_sem]
  refine opened_use s1.wf (ht0.mono s1) _ (fun h5 s45 c => ?_) fun h5 d s15 c g hd => ?_
  · simp -implicitDefEqProofs (maxSteps := 999999) (disch := first | with_reducible rfl | omega | (simp only [nA, nS, nD] <;> omega) | fail) only [go_sem, ne_eq, c, not_false_eq_true]
    exact bad _ (s1.trans s45) _ c (by unfold matchE; rw [if_pos c])
  have s5 := s1.trans s15
  simp -implicitDefEqProofs (maxSteps := 999999) (disch := first | with_reducible rfl | omega | (simp only [nA, nS, nD] <;> omega) | fail) only [go_sem, ne_eq, not_true_eq_false, s15.cells g1]
  refine piece_ev s5.wf (ht0.mono s5) p _ fun h6 s56 => ?_
  have s6 := s5.trans s56
  cases cp : isPc t p
  · simp -implicitDefEqProofs (maxSteps := 999999) (disch := first | with_reducible rfl | omega | (simp only [nA, nS, nD] <;> omega) | fail) only [go_sem, Bool.not_false]
    exact bad _ s6 1 (by decide) (by unfold matchE; rw [if_neg (by simp [c]), if_pos (.inl cp)])
  simp -implicitDefEqProofs (maxSteps := 999999) (disch := first | with_reducible rfl | omega | (simp only [nA, nS, nD] <;> omega) | fail) only [go_sem, Bool.not_true, (s15.trans s56).cells g1]
  refine piece_ev s6.wf (ht0.mono s6) r _ fun h7 s67 => ?_
  have s7 := s6.trans s67
  cases cr : isPc t r
  · simp -implicitDefEqProofs (maxSteps := 999999) (disch := first | with_reducible rfl | omega | (simp only [nA, nS, nD] <;> omega) | fail) only [go_sem, Bool.not_false]
    exact bad _ s7 1 (by decide) (by unfold matchE; rw [if_neg (by simp [c]), if_pos (.inr cr)])
  have e1 : matchE t p r = 0 := by unfold matchE; rw [if_neg (by simp [c]), if_neg (by simp [cp, cr])]
  simp only [isPc, decide_eq_true_eq] at cp cr
  obtain ⟨i, rfl⟩ := Int.eq_ofNat_of_zero_le cp.1
  obtain ⟨k, rfl⟩ := Int.eq_ofNat_of_zero_le cr.1
  simp -implicitDefEqProofs (maxSteps := 999999) (disch := first | with_reducible rfl | omega | (simp only [nA, nS, nD] <;> omega) | fail) only [go_sem, Bool.not_true]
  refine match_ev s7.wf (hd.mono (s56.trans s67)) g (by omega) (by omega) _ fun h8 s78 => ?_
  simp -implicitDefEqProofs (maxSteps := 999999) (disch := first | with_reducible rfl | omega | (simp only [nA, nS, nD] <;> omega) | fail) only [go_sem]
  have q' := q _ (s7.trans s78)
  unfold matchR at q'
  rw [e1] at q'
  simpa using q'
end Go.Ab.Try
