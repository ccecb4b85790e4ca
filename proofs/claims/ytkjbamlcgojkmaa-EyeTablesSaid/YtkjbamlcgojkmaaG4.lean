/- Sees, Apart, Match, Scrap. Tables copied and compared; the reference's table. The reference's table, and its errors. The reference's Check, Sees, Tells, Alike, Apart. -/
import Derived.Test.YtkjbamlcgojkmaaG2
set_option linter.unusedSimpArgs false
set_option linter.unusedVariables false
namespace Go.Ab
namespace Try
theorem awake_eq (h : H) (Q : V → H → Prop) : Ev fnG fastA (.fn 13 [] []) [] h Q = Q (.bool true) h := Ev.det ⟨1, .bool true, h, rfl, rfl, rfl⟩ Q
theorem allOne_flat {α : Type} {enc : α → List V} (h : ∀ a, allOne (enc a) = true) (l : List α) : allOne (l.map enc).flatten = true := by
  rw [allOne_eq]
  intro v hv
  obtain ⟨r, hr, hvr⟩ := List.mem_flatten.1 hv
  obtain ⟨a, _, rfl⟩ := List.mem_map.1 hr
  exact allOne_eq.1 (h a) v hvr
def greatT (t : Tb) : Bool := decide (12 < t.eyes.length ∨ 12 < t.lights.length ∨ 15 < t.pieces.length)
theorem great_ev {h : H} {v : V} {t : Tb} (hw : h.wf) (ht : TbIs h v t) (Q : V → H → Prop) (q : ∀ h', h.Sub h' → Q (.bool (greatT t)) h') : Ev fnG fastA (.fn 12 [] []) [v] h Q := by
  obtain ⟨E, L, P, rfl, aE, aL, aP⟩ := ht
  have hlE := aE.lenE
  have hlL := aL.lenE
  have hlP := aP.lenE
  refine Ev_body (fd := c12) rfl rfl rfl ?_
  have q' := q _ ((H.Sub.refl hw).add (.cells .rw [E, L, P]))
  by_cases c1 : 12 < (t.eyes.length : Int)
  · simp -implicitDefEqProofs (maxSteps := 999999) (disch := first | with_reducible rfl | omega | (simp only [nA, nS, nD] <;> omega) | fail) only [c12, go_sem, hlE, hlL, hlP, c1]
    have e : greatT t = true := by simp only [greatT, decide_eq_true_eq]; omega
    rw [e] at q'; exact q'
  by_cases c2 : 12 < (t.lights.length : Int)
  · simp -implicitDefEqProofs (maxSteps := 999999) (disch := first | with_reducible rfl | omega | (simp only [nA, nS, nD] <;> omega) | fail) only [c12, go_sem, hlE, hlL, hlP, c1, c2]
    have e : greatT t = true := by simp only [greatT, decide_eq_true_eq]; omega
    rw [e] at q'; exact q'
  · simp -implicitDefEqProofs (maxSteps := 999999) (disch := first | with_reducible rfl | omega | (simp only [nA, nS, nD] <;> omega) | fail) only [c12, go_sem, hlE, hlL, hlP, c1, c2]
    have e : greatT t = decide (15 < (t.pieces.length : Int)) := by rw [Bool.eq_iff_iff]; simp only [greatT, decide_eq_true_eq]; omega
    rw [e] at q'; exact q'
theorem dupEye_ev {h : H} {x : V} {l : List Ey} (hw : h.wf) (hx : SlAt h x 4 (l.map encE)) (hl : l.length ≤ 1000000) (Q : V → H → Prop) :
    Ev fnG fastA (.fn 77 [] []) [x] h Q = Q (.sl h.next 0 l.length (.fix l.length)) (h.add (.cells .rw (l.map encE).flatten)) := by
  refine Ev.det (Ev_body (fd := c77) rfl rfl rfl ?_) Q
  simp -implicitDefEqProofs (maxSteps := 999999) (disch := first | with_reducible rfl | omega | (simp only [nA, nS, nD] <;> omega) | fail) only [c77, go_sem, hx.lenE, a_msl_0n]
  have := dup_core (by_ := 32) (z := [.int .i64 0, .int .i64 0, .int .i64 0, .int .i64 0]) hx hw rfl (by omega) (allOne_flat (fun a => rfl) l)
  rw [List.length_map] at this
  simp -implicitDefEqProofs (maxSteps := 999999) (disch := first | with_reducible rfl | omega | (simp only [nA, nS, nD] <;> omega) | fail) only [go_sem, this]
theorem dupLight_ev {h : H} {x : V} {l : List Sd} (hw : h.wf) (hx : SlAt h x 3 (l.map encD)) (hl : l.length ≤ 1000000) (Q : V → H → Prop) :
    Ev fnG fastA (.fn 78 [] []) [x] h Q = Q (.sl h.next 0 l.length (.fix l.length)) (h.add (.cells .rw (l.map encD).flatten)) := by
  refine Ev.det (Ev_body (fd := c78) rfl rfl rfl ?_) Q
  simp -implicitDefEqProofs (maxSteps := 999999) (disch := first | with_reducible rfl | omega | (simp only [nA, nS, nD] <;> omega) | fail) only [c78, go_sem, hx.lenE, a_msl_0n]
  have := dup_core (by_ := 24) (z := [.int .i64 0, .int .i64 0, .int .i64 0]) hx hw rfl (by omega) (allOne_flat (fun a => rfl) l)
  rw [List.length_map] at this
  simp -implicitDefEqProofs (maxSteps := 999999) (disch := first | with_reducible rfl | omega | (simp only [nA, nS, nD] <;> omega) | fail) only [go_sem, this]
theorem dupShade_ev {h : H} {x : V} {l : List Sd} (hw : h.wf) (hx : SlAt h x 3 (l.map encD)) (hl : l.length ≤ 1000000) (Q : V → H → Prop) :
    Ev fnG fastA (.fn 79 [] []) [x] h Q = Q (.sl h.next 0 l.length (.fix l.length)) (h.add (.cells .rw (l.map encD).flatten)) := by
  refine Ev.det (Ev_body (fd := c79) rfl rfl rfl ?_) Q
  simp -implicitDefEqProofs (maxSteps := 999999) (disch := first | with_reducible rfl | omega | (simp only [nA, nS, nD] <;> omega) | fail) only [c79, go_sem, hx.lenE, a_msl_0n]
  have := dup_core (by_ := 24) (z := [.int .i64 0, .int .i64 0, .int .i64 0]) hx hw rfl (by omega) (allOne_flat (fun a => rfl) l)
  rw [List.length_map] at this
  simp -implicitDefEqProofs (maxSteps := 999999) (disch := first | with_reducible rfl | omega | (simp only [nA, nS, nD] <;> omega) | fail) only [go_sem, this]
theorem SlAt.full {h : H} {b n : Nat} {k : Kd} {c : Cap} {sz : Nat} {rows : List (List V)} (hn : n = rows.length) (hb : h.get b = some (.cells k rows.flatten)) (hsz : ∀ r ∈ rows, r.length = sz) (hl : rows.length ≤ 1000000) : SlAt h (.sl b 0 n c) sz rows := by
  subst hn
  refine ⟨hsz, by omega, .inr ⟨b, 0, c, _, rfl, .inr (cells_of hb), getN_eq.2 ⟨?_, ?_⟩⟩⟩
  · rw [List.drop_zero, ← flatten_len hsz, List.take_length]
  · rw [flatten_len hsz]; omega
def TbNew (h0 h : H) (v : V) (t : Tb) : Prop := ∃ a b c, v = .agg [.sl a 0 t.eyes.length (.fix t.eyes.length), .sl b 0 t.lights.length (.fix t.lights.length), .sl c 0 t.pieces.length (.fix t.pieces.length)] ∧ (h0.next ≤ a ∧ a < h.next) ∧ (h0.next ≤ b ∧ b < h.next) ∧ (h0.next ≤ c ∧ c < h.next) ∧
  (a ≠ b ∧ a ≠ c ∧ b ≠ c) ∧ h.get a = some (.cells .rw (t.eyes.map encE).flatten) ∧ h.get b = some (.cells .rw (t.lights.map encD).flatten) ∧ h.get c = some (.cells .rw (t.pieces.map encD).flatten)
def Small (t : Tb) : Prop := t.eyes.length ≤ 1000 ∧ t.lights.length ≤ 1000 ∧ t.pieces.length ≤ 1000
theorem TbNew.is {h0 h : H} {v : V} {t : Tb} (a : TbNew h0 h v t) (hl : Small t) : TbIs h v t := by
  obtain ⟨a, b, c, rfl, _, _, _, _, g1, g2, g3⟩ := a
  have := hl.1
  have := hl.2.1
  have := hl.2.2
  exact ⟨_, _, _, rfl, SlAt.full (by simp) g1 (by simp [encE]) (by simp; omega), SlAt.full (by simp) g2 (by simp [encD]) (by simp; omega), SlAt.full (by simp) g3 (by simp [encD]) (by simp; omega)⟩
theorem own_ev {h : H} {v : V} {t : Tb} (hw : h.wf) (ht : TbIs h v t) (hl : Small t) (Q : V → H → Prop) (q : ∀ u h', h.Sub h' → TbNew h h' u t → Q u h') : Ev fnG fastA (.fn 14 [] []) [v] h Q := by
  obtain ⟨E, L, P, rfl, aE, aL, aP⟩ := ht
  obtain ⟨l1, l2, l3⟩ := hl
  refine Ev_body (fd := c14) rfl rfl rfl ?_
  have s2 : h.Sub ((h.add (.cells .rw [E, L, P])).add (.cells .rw [.nils, .nils, .nils])) := (by repeat (first | assumption | exact H.Sub.refl (by assumption) | refine H.Sub.add ?_ _ | refine H.Sub.set ?_ (by first | omega | (simp only [H.next_add, H.next_set, H.next_del] <;> omega)) (by first | omega | (simp only [H.next_add, H.next_set, H.next_del] <;> omega)) (by assumption) _))
  have s3 := s2.add (.cells .rw (t.eyes.map encE).flatten)
  have s4 := s3.add (.cells .rw (t.lights.map encD).flatten)
  have s5 := s4.add (.cells .rw (t.pieces.map encD).flatten)
  simp -implicitDefEqProofs (maxSteps := 999999) (disch := first | with_reducible rfl | omega | (simp only [nA, nS, nD] <;> omega) | fail) only [c14, go_sem, dupEye_ev s2.wf (aE.mono s2) (by omega), dupLight_ev s3.wf (aL.mono s3) (by omega), dupShade_ev s4.wf (aP.mono s4) (by omega), evQ_ld]
  refine q _ _ ((by repeat (first | assumption | exact H.Sub.refl (by assumption) | refine H.Sub.add ?_ _ | refine H.Sub.set ?_ (by first | omega | (simp only [H.next_add, H.next_set, H.next_del] <;> omega)) (by first | omega | (simp only [H.next_add, H.next_set, H.next_del] <;> omega)) (by assumption) _))) ⟨h.next + 1 + 1, h.next + 1 + 1 + 1, h.next + 1 + 1 + 1 + 1, rfl, ⟨by omega, by simp only [H.next_set, H.next_add]; omega⟩, ⟨by omega, by simp only [H.next_set, H.next_add]; omega⟩, ⟨by omega, by simp only [H.next_set, H.next_add]; omega⟩, by omega, ?_, ?_, ?_⟩
  all_goals simp -implicitDefEqProofs (maxSteps := 999999) (disch := first | with_reducible rfl | omega | (simp only [nA, nS, nD] <;> omega) | fail) only [go_sem]
def rowE (e : Ey) : List Int := [e.s.x, e.s.y, e.s.z, e.frm]
def rowD (s : Sd) : List Int := [s.x, s.y, s.z]
theorem rowE_inj {a b : List Ey} : a.map rowE = b.map rowE ↔ a = b := by
  refine ⟨fun h => ?_, fun h => by rw [h]⟩
  refine List.map_inj_right (f := rowE) (fun x y hxy => ?_) |>.1 h
  obtain ⟨⟨_, _, _⟩, _⟩ := x; obtain ⟨⟨_, _, _⟩, _⟩ := y; simp [rowE] at hxy; simp [hxy]
theorem rowD_inj {a b : List Sd} : a.map rowD = b.map rowD ↔ a = b := by
  refine ⟨fun h => ?_, fun h => by rw [h]⟩
  refine List.map_inj_right (f := rowD) (fun x y hxy => ?_) |>.1 h
  cases x; cases y; simp [rowD] at hxy; simp [hxy]
theorem eqEyes_ev {l r : List Ey} {h : H} {x y : V} (hx : SlAt h x 4 (l.map encE)) (hy : SlAt h y 4 (r.map encE)) (Q : V → H → Prop) : Ev fnG fastA (.fn 61 [] []) [x, y] h Q = Q (.bool (decide (l = r))) h := by
  rw [eqEye_ev (l := l.map rowE) (r := r.map rowE) (by rw [List.map_map]; exact hx) (by rw [List.map_map]; exact hy)]
  simp only [rowE_inj]
theorem eqLights_ev {l r : List Sd} {h : H} {x y : V} (hx : SlAt h x 3 (l.map encD)) (hy : SlAt h y 3 (r.map encD)) (Q : V → H → Prop) : Ev fnG fastA (.fn 62 [] []) [x, y] h Q = Q (.bool (decide (l = r))) h := by
  rw [eqLight_ev (l := l.map rowD) (r := r.map rowD) (by rw [List.map_map]; exact hx) (by rw [List.map_map]; exact hy)]
  simp only [rowD_inj]
theorem eqShades_ev {l r : List Sd} {h : H} {x y : V} (hx : SlAt h x 3 (l.map encD)) (hy : SlAt h y 3 (r.map encD)) (Q : V → H → Prop) : Ev fnG fastA (.fn 60 [] []) [x, y] h Q = Q (.bool (decide (l = r))) h := by
  rw [eqShade_ev (l := l.map rowD) (r := r.map rowD) (by rw [List.map_map]; exact hx) (by rw [List.map_map]; exact hy)]
  simp only [rowD_inj]
theorem same_ev {h : H} {v u : V} {m n : Tb} (hw : h.wf) (hm : TbIs h v m) (hn : TbIs h u n) (Q : V → H → Prop) (q : ∀ h', h.Sub h' → Q (.bool (decide (m = n))) h') : Ev fnG fastA (.fn 24 [] []) [v, u] h Q := by
  obtain ⟨me, ml, mp⟩ := m
  obtain ⟨ne, nl, np⟩ := n
  obtain ⟨E, L, P, rfl, aE, aL, aP⟩ := hm
  obtain ⟨E', L', P', rfl, bE, bL, bP⟩ := hn
  dsimp only at aE aL aP bE bL bP
  refine Ev_body (fd := c24) rfl rfl rfl ?_
  have s2 : h.Sub ((h.add (.cells .rw [E, L, P])).add (.cells .rw [E', L', P'])) := ((H.Sub.refl hw).add _).add _
  have q' := q _ s2
  simp only [Tb.mk.injEq] at q'
  have r1 := eqEyes_ev (aE.mono s2) (bE.mono s2)
  have r2 := eqLights_ev (aL.mono s2) (bL.mono s2)
  have r3 := eqShades_ev (aP.mono s2) (bP.mono s2)
  by_cases c1 : me = ne
  · by_cases c2 : ml = nl
    · simp -implicitDefEqProofs (maxSteps := 999999) (disch := first | with_reducible rfl | omega | (simp only [nA, nS, nD] <;> omega) | fail) only [c24, go_sem, r1, r2, r3, c1, c2]
      simpa [c1, c2] using q'
    · simp -implicitDefEqProofs (maxSteps := 999999) (disch := first | with_reducible rfl | omega | (simp only [nA, nS, nD] <;> omega) | fail) only [c24, go_sem, r1, r2, r3, c1, c2]
      simpa [c1, c2] using q'
  · simp -implicitDefEqProofs (maxSteps := 999999) (disch := first | with_reducible rfl | omega | (simp only [nA, nS, nD] <;> omega) | fail) only [c24, go_sem, r1, r2, r3, c1]
    simpa [c1] using q'
end Try
end Go.Ab
set_option linter.unusedSimpArgs false
set_option linter.unusedVariables false
namespace Go.Ab.Try
set_option maxHeartbeats 1000000 in
theorem theirs_ev {h : H} {v : V} {t : Tb} (hw : h.wf) (ht : TbIs h v t) (hl : Small t) (Q : V → H → Prop) (q : ∀ u h', h.Sub h' → TbIs h' u t → Q u h') : Ev fnG fastA (.fn 15 [] []) [v] h Q := by
  obtain ⟨E, L, P, rfl, aE, aL, aP⟩ := ht
  obtain ⟨m1, m2, m3⟩ := hl
  have hlE := aE.lenE
  have hlL := aL.lenE
  have hlP := aP.lenE
  refine Ev_body (fd := c15) rfl rfl rfl ?_
  have s3 : h.Sub (((h.add (.cells .rw [E, L, P])).add (.cells .rw [.nils, .nils, .nils])).add (.cells .rw [.nils, .nils, .nils])) := (by repeat (first | assumption | exact H.Sub.refl (by assumption) | refine H.Sub.add ?_ _ | refine H.Sub.set ?_ (by first | omega | (simp only [H.next_add, H.next_set, H.next_del] <;> omega)) (by first | omega | (simp only [H.next_add, H.next_set, H.next_del] <;> omega)) (by assumption) _))
  simp -implicitDefEqProofs (maxSteps := 999999) (disch := first | with_reducible rfl | omega | (simp only [nA, nS, nD] <;> omega) | fail) only [c15, go_sem, hlE]
  refine W_count t.eyes.length (fun i s => ∃ tm h' x, s = ⟨tm, h', []⟩ ∧ OwnSl h h' x 4 ((t.eyes.take i).map encE) ∧ h.next + 2 < h'.next ∧ (Opd.t 1).ev tm = .ptr h.next 0 ∧ (Opd.t 2).ev tm = .ptr (h.next + 1) 0 ∧ (Opd.t 3).ev tm = .ptr (h.next + 1 + 1) 0 ∧
      (Opd.t 11).ev tm = E ∧ (Opd.t 12).ev tm = .int .i64 (t.eyes.length : Int) ∧ (Opd.t 13).ev tm = .int .i64 (i : Int) ∧
      h'.get h.next = some (.cells .rw [E, L, P]) ∧ h'.get (h.next + 1) = some (.cells .rw [.nils, .nils, .nils]) ∧ h'.get (h.next + 1 + 1) = some (.cells .rw [x, .nils, .nils]))
    ?_ ?_ (i := 0) (Nat.zero_le _) ⟨_, _, .nils, rfl, OwnSl.nil s3 4, by simp only [H.next_add]; omega, (by simp [ev_c, ev_put] <;> rfl), (by simp [ev_c, ev_put] <;> rfl), (by simp [ev_c, ev_put] <;> rfl), (by simp [ev_c, ev_put] <;> rfl), (by simp [ev_c, ev_put] <;> rfl), (by simp [ev_c, ev_put] <;> rfl), by simp -implicitDefEqProofs (maxSteps := 999999) (disch := first | with_reducible rfl | omega | (simp only [nA, nS, nD] <;> omega) | fail) only [go_sem], by simp -implicitDefEqProofs (maxSteps := 999999) (disch := first | with_reducible rfl | omega | (simp only [nA, nS, nD] <;> omega) | fail) only [go_sem], by simp -implicitDefEqProofs (maxSteps := 999999) (disch := first | with_reducible rfl | omega | (simp only [nA, nS, nD] <;> omega) | fail) only [go_sem]⟩
  · rintro i s hi ⟨tm, h', x, rfl, ox, lt, t1, t2, t3, t11, t12, t13, g1, g2, g3⟩
    have hi' : (i : Int) < (t.eyes.length : Int) := by omega
    have hs := ox.1
    obtain ⟨b, o, c, cs, eb, hc, hq, hg, hn, hn0⟩ := (aE.mono hs).at hi
    obtain ⟨e, ee⟩ : ∃ e, t.eyes[i] = e := ⟨_, rfl⟩
    rw [ee] at hg
    have hx1 := OwnC.one ox.c
    simp only [encE] at hg
    simp -implicitDefEqProofs (maxSteps := 999999) (disch := first | with_reducible rfl | omega | (simp only [nA, nS, nD] <;> omega) | fail) only [go_sem, t1, t2, t3, t11, t12, t13, hi', hq (nat_cst i), hc, hg, cells_of g3]
    have sB : h'.Sub ((h'.add (.cells .rw [.int .i64 e.s.x, .int .i64 e.s.y, .int .i64 e.s.z, .int .i64 e.frm])).add (.cells .rw [.int .i64 e.s.x, .int .i64 e.s.y, .int .i64 e.s.z, .int .i64 e.frm])) := ((H.Sub.refl hs.wf).add _).add _
    have oB := ox.mono sB
    refine oB.app1 (by_ := 32) (r := encE e) hw rfl (by omega) (SlAt.new _ (by simp only [H.next_add]) rfl rfl (by simp [encE]) (by simp)) rfl (by simp; omega) (by simp; omega) fun h5 o5 k5 n5 => ?_
    have g5a := k5.2 _ _ (sB.get g1) (oB.ne (sB.get g1))
    have g5b := k5.2 _ _ (sB.get g2) (oB.ne (sB.get g2))
    have g5c := k5.2 _ _ (sB.get g3) (oB.ne (sB.get g3))
    simp only [H.next_add] at n5 o5
    simp -implicitDefEqProofs (maxSteps := 999999) (disch := first | with_reducible rfl | omega | (simp only [nA, nS, nD] <;> omega) | fail) only [go_sem, t1, t2, t3, t11, t12, t13, g5a, g5b, g5c, cells_of g5c, wr_succ]
    have o6 := o5.keep (Keeps.set h5 (h.next + 1 + 1) (.cells .rw [.sl (h'.next + 1 + 1) 0 (((t.eyes.take i).map encE).length + 1) (.slk 0 0), .nils, .nils])) (o5.1.set (by omega) (by omega) hw _) (fun b hb e => by
      obtain ⟨_, _, _, e'⟩ := hb; cases e'; omega)
    refine ⟨_, _, _, rfl, ?_, by rw [H.next_set]; omega, (by simp [ev_c, ev_put, t1] <;> rfl), (by simp [ev_c, ev_put, t2] <;> rfl), (by simp [ev_c, ev_put, t3] <;> rfl), (by simp [ev_c, ev_put, t11] <;> rfl), (by simp [ev_c, ev_put, t12] <;> rfl), (by simp [ev_c, ev_put] <;> rfl), by rw [get_set_other (by omega)]; exact g5a, by rw [get_set_other (by omega)]; exact g5b, get_set_same rfl⟩
    rw [List.take_succ_eq_append_getElem hi, List.map_append, ee]
    exact o6
  · rintro s ⟨tm, h', x, rfl, ox, lt, t1, t2, t3, t11, t12, t13, g1, g2, g3⟩
    rw [List.take_length] at ox
    have hs := ox.1
    have hx1 := OwnC.one ox.c
    simp -implicitDefEqProofs (maxSteps := 999999) (disch := first | with_reducible rfl | omega | (simp only [nA, nS, nD] <;> omega) | fail) only [go_sem, t1, t2, t3, t11, t12, t13, Int.lt_irrefl, cells_of g1, hlL]
    refine W_count t.lights.length (fun i s => ∃ tm h2 y, s = ⟨tm, h2, []⟩ ∧ OwnSl h h2 y 3 ((t.lights.take i).map encD) ∧ OwnSl h h2 x 4 (t.eyes.map encE) ∧ (∀ b, blkOf x b → ¬ blkOf y b) ∧ h.next + 2 < h2.next ∧ (Opd.t 1).ev tm = .ptr h.next 0 ∧ (Opd.t 2).ev tm = .ptr (h.next + 1) 0 ∧ (Opd.t 3).ev tm = .ptr (h.next + 1 + 1) 0 ∧
        (Opd.t 29).ev tm = L ∧ (Opd.t 30).ev tm = .int .i64 (t.lights.length : Int) ∧ (Opd.t 31).ev tm = .int .i64 (i : Int) ∧
        h2.get h.next = some (.cells .rw [E, L, P]) ∧ h2.get (h.next + 1) = some (.cells .rw [.nils, .nils, .nils]) ∧ h2.get (h.next + 1 + 1) = some (.cells .rw [x, y, .nils]))
      ?_ ?_ (i := 0) (Nat.zero_le _) ⟨_, _, .nils, rfl, OwnSl.nil hs 3, ox, fun b _ hb => (blkOf_nils hb).elim, lt, (by simp [ev_c, ev_put, t1] <;> rfl), (by simp [ev_c, ev_put, t2] <;> rfl), (by simp [ev_c, ev_put, t3] <;> rfl), (by simp [ev_c, ev_put] <;> rfl), (by simp [ev_c, ev_put] <;> rfl), (by simp [ev_c, ev_put] <;> rfl), g1, g2, g3⟩ <;> clear t1 t2 t3 t11 t12 t13 g1 g2 g3 tm
    · rintro i s hi ⟨tm, h2, y, rfl, oy, oxx, dis, lt2, t1, t2, t3, t29, t30, t31, g1, g2, g3⟩
      have hi' : (i : Int) < (t.lights.length : Int) := by omega
      have hs2 := oy.1
      obtain ⟨b, o, c, cs, eb, hc, hq, hg, hn, hn0⟩ := (aL.mono hs2).at hi
      obtain ⟨e, ee⟩ : ∃ e, t.lights[i] = e := ⟨_, rfl⟩
      rw [ee] at hg
      simp only [encD] at hg
      have hy1 := OwnC.one oy.c
      simp -implicitDefEqProofs (maxSteps := 999999) (disch := first | with_reducible rfl | omega | (simp only [nA, nS, nD] <;> omega) | fail) only [go_sem, t1, t2, t3, t29, t30, t31, hi', hq (nat_cst i), hc, hg, cells_of g3]
      have sB : h2.Sub ((h2.add (.cells .rw [.int .i64 e.x, .int .i64 e.y, .int .i64 e.z])).add (.cells .rw [.int .i64 e.x, .int .i64 e.y, .int .i64 e.z])) := ((H.Sub.refl hs2.wf).add _).add _
      have oB := oy.mono sB
      refine oB.app1 (by_ := 24) (r := encD e) hw rfl (by omega) (SlAt.new _ (by simp only [H.next_add]) rfl rfl (by simp [encD]) (by simp)) rfl (by simp; omega) (by simp; omega) fun h5 o5 k5 n5 => ?_
      have g5a := k5.2 _ _ (sB.get g1) (oB.ne (sB.get g1))
      have g5b := k5.2 _ _ (sB.get g2) (oB.ne (sB.get g2))
      have g5c := k5.2 _ _ (sB.get g3) (oB.ne (sB.get g3))
      have ox5 := (oxx.mono sB).keep k5 o5.1 dis
      simp only [H.next_add] at n5 o5
      simp -implicitDefEqProofs (maxSteps := 999999) (disch := first | with_reducible rfl | omega | (simp only [nA, nS, nD] <;> omega) | fail) only [go_sem, t1, t2, t3, t29, t30, t31, g5a, g5b, g5c, cells_of g5c, wr_succ]
      have hs6 := o5.1.set (b := h.next + 1 + 1) (by omega) (by omega) hw (.cells .rw [x, .sl (h2.next + 1 + 1) 0 (((t.lights.take i).map encD).length + 1) (.slk 0 0), .nils])
      have k6 := Keeps.set h5 (h.next + 1 + 1) (.cells .rw [x, .sl (h2.next + 1 + 1) 0 (((t.lights.take i).map encD).length + 1) (.slk 0 0), .nils])
      have o6 := o5.keep k6 hs6 (fun b hb e => by
        obtain ⟨_, _, _, e'⟩ := hb; cases e'; omega)
      have ox6 := ox5.keep k6 hs6 (fun b hb e => by rw [e] at hb; exact ox5.ne g5c hb)
      refine ⟨_, _, _, rfl, ?_, ox6, fun b hb hb2 => ?_, by rw [H.next_set]; omega, (by simp [ev_c, ev_put, t1] <;> rfl), (by simp [ev_c, ev_put, t2] <;> rfl), (by simp [ev_c, ev_put, t3] <;> rfl), (by simp [ev_c, ev_put, t29] <;> rfl), (by simp [ev_c, ev_put, t30] <;> rfl), (by simp [ev_c, ev_put] <;> rfl), by rw [get_set_other (by omega)]; exact g5a, by rw [get_set_other (by omega)]; exact g5b, get_set_same rfl⟩
      · rw [List.take_succ_eq_append_getElem hi, List.map_append, ee]
        exact o6
      · obtain ⟨_, _, _, e'⟩ := hb2; cases e'
        have := (oxx.blk hb).2.1; omega
    · rintro s ⟨tm, h2, y, rfl, oy, oxx, dis, lt2, t1, t2, t3, t29, t30, t31, g1, g2, g3⟩
      rw [List.take_length] at oy
      have hs2 := oy.1
      have hy1 := OwnC.one oy.c
      simp -implicitDefEqProofs (maxSteps := 999999) (disch := first | with_reducible rfl | omega | (simp only [nA, nS, nD] <;> omega) | fail) only [go_sem, t1, t2, t3, t29, t30, t31, Int.lt_irrefl, cells_of g1, hlP]
      refine W_count t.pieces.length (fun i s => ∃ tm h2 z, s = ⟨tm, h2, []⟩ ∧ OwnSl h h2 z 3 ((t.pieces.take i).map encD) ∧ OwnSl h h2 x 4 (t.eyes.map encE) ∧ OwnSl h h2 y 3 (t.lights.map encD) ∧ (∀ b, blkOf x b → ¬ blkOf z b) ∧ (∀ b, blkOf y b → ¬ blkOf z b) ∧ h.next + 2 < h2.next ∧ (Opd.t 1).ev tm = .ptr h.next 0 ∧ (Opd.t 2).ev tm = .ptr (h.next + 1) 0 ∧ (Opd.t 3).ev tm = .ptr (h.next + 1 + 1) 0 ∧
          (Opd.t 43).ev tm = P ∧ (Opd.t 44).ev tm = .int .i64 (t.pieces.length : Int) ∧ (Opd.t 45).ev tm = .int .i64 (i : Int) ∧
          h2.get (h.next + 1) = some (.cells .rw [.nils, .nils, .nils]) ∧ h2.get (h.next + 1 + 1) = some (.cells .rw [x, y, z]))
        ?_ ?_ (i := 0) (Nat.zero_le _) ⟨_, _, .nils, rfl, OwnSl.nil hs2 3, oxx, oy, fun b _ hb => (blkOf_nils hb).elim, fun b _ hb => (blkOf_nils hb).elim, lt2, (by simp [ev_c, ev_put, t1] <;> rfl), (by simp [ev_c, ev_put, t2] <;> rfl), (by simp [ev_c, ev_put, t3] <;> rfl), (by simp [ev_c, ev_put] <;> rfl), (by simp [ev_c, ev_put] <;> rfl), (by simp [ev_c, ev_put] <;> rfl), g2, g3⟩ <;> clear t1 t2 t3 t29 t30 t31 g1 g2 g3 tm
      · rintro i s hi ⟨tm, h3, z, rfl, oz, oxx, oyy, dis1, dis2, lt3, t1, t2, t3, t43, t44, t45, g2, g3⟩
        have hi' : (i : Int) < (t.pieces.length : Int) := by omega
        have hs2 := oz.1
        obtain ⟨b, o, c, cs, eb, hc, hq, hg, hn, hn0⟩ := (aP.mono hs2).at hi
        obtain ⟨e, ee⟩ : ∃ e, t.pieces[i] = e := ⟨_, rfl⟩
        rw [ee] at hg
        simp only [encD] at hg
        have hz1 := OwnC.one oz.c
        simp -implicitDefEqProofs (maxSteps := 999999) (disch := first | with_reducible rfl | omega | (simp only [nA, nS, nD] <;> omega) | fail) only [go_sem, t1, t2, t3, t43, t44, t45, hi', hq (nat_cst i), hc, hg, cells_of g3]
        have sB : h3.Sub ((h3.add (.cells .rw [.int .i64 e.x, .int .i64 e.y, .int .i64 e.z])).add (.cells .rw [.int .i64 e.x, .int .i64 e.y, .int .i64 e.z])) := ((H.Sub.refl hs2.wf).add _).add _
        have oB := oz.mono sB
        refine oB.app1 (by_ := 24) (r := encD e) hw rfl (by omega) (SlAt.new _ (by simp only [H.next_add]) rfl rfl (by simp [encD]) (by simp)) rfl (by simp; omega) (by simp; omega) fun h5 o5 k5 n5 => ?_
        have g5b := k5.2 _ _ (sB.get g2) (oB.ne (sB.get g2))
        have g5c := k5.2 _ _ (sB.get g3) (oB.ne (sB.get g3))
        have ox5 := (oxx.mono sB).keep k5 o5.1 dis1
        have oy5 := (oyy.mono sB).keep k5 o5.1 dis2
        simp only [H.next_add] at n5 o5
        simp -implicitDefEqProofs (maxSteps := 999999) (disch := first | with_reducible rfl | omega | (simp only [nA, nS, nD] <;> omega) | fail) only [go_sem, t1, t2, t3, t43, t44, t45, g5b, g5c, cells_of g5c, wr_succ]
        have hs6 := o5.1.set (b := h.next + 1 + 1) (by omega) (by omega) hw (.cells .rw [x, y, .sl (h3.next + 1 + 1) 0 (((t.pieces.take i).map encD).length + 1) (.slk 0 0)])
        have k6 := Keeps.set h5 (h.next + 1 + 1) (.cells .rw [x, y, .sl (h3.next + 1 + 1) 0 (((t.pieces.take i).map encD).length + 1) (.slk 0 0)])
        have o6 := o5.keep k6 hs6 (fun b hb e => by
          obtain ⟨_, _, _, e'⟩ := hb; cases e'; omega)
        have ox6 := ox5.keep k6 hs6 (fun b hb e => by rw [e] at hb; exact ox5.ne g5c hb)
        have oy6 := oy5.keep k6 hs6 (fun b hb e => by rw [e] at hb; exact oy5.ne g5c hb)
        refine ⟨_, _, _, rfl, ?_, ox6, oy6, fun b hb hb2 => ?_, fun b hb hb2 => ?_, by rw [H.next_set]; omega, (by simp [ev_c, ev_put, t1] <;> rfl), (by simp [ev_c, ev_put, t2] <;> rfl), (by simp [ev_c, ev_put, t3] <;> rfl), (by simp [ev_c, ev_put, t43] <;> rfl), (by simp [ev_c, ev_put, t44] <;> rfl), (by simp [ev_c, ev_put] <;> rfl), by rw [get_set_other (by omega)]; exact g5b, get_set_same rfl⟩
        · rw [List.take_succ_eq_append_getElem hi, List.map_append, ee]
          exact o6
        · obtain ⟨_, _, _, e'⟩ := hb2; cases e'
          have := (oxx.blk hb).2.1; omega
        · obtain ⟨_, _, _, e'⟩ := hb2; cases e'
          have := (oyy.blk hb).2.1; omega
      · rintro s ⟨tm, h3, z, rfl, oz, oxx, oyy, dis1, dis2, lt3, t1, t2, t3, t43, t44, t45, g2, g3⟩
        rw [List.take_length] at oz
        have hz1 := OwnC.one oz.c
        have s6 := oz.1.set (b := h.next + 1) (by omega) (by omega) hw (.cells .rw [x, y, z])
        have k6 := Keeps.set h3 (h.next + 1) (.cells .rw [x, y, z])
        have o6 := oz.keep k6 s6 (fun b hb e => by rw [e] at hb; exact oz.ne g2 hb)
        have oy6 := oyy.keep k6 s6 (fun b hb e => by rw [e] at hb; exact oyy.ne g2 hb)
        have ox6 := oxx.keep k6 s6 (fun b hb e => by rw [e] at hb; exact oxx.ne g2 hb)
        have c9 : (h3.set (h.next + 1) (.cells .rw [x, y, z])).cells (h.next + 1) = some [x, y, z] := cells_set_same rfl
        simp -implicitDefEqProofs (maxSteps := 999999) (disch := first | with_reducible rfl | omega | (simp only [nA, nS, nD] <;> omega) | fail) only [go_sem, t1, t2, t3, t43, t44, t45, Int.lt_irrefl, cells_of g3, g2, hx1, hy1, hz1, cells_one hx1, cells_one hy1, cells_one hz1, c9]
        exact q _ _ s6 ⟨x, y, z, rfl, ox6.sl (by simp; omega), oy6.sl (by simp; omega), o6.sl (by simp; omega)⟩
theorem off_ev (n lo hi : Int) (h : H) (Q : V → H → Prop) : Ev fnG fastA (.fn 80 [] []) [.int .i64 n, .int .i64 lo, .int .i64 hi] h Q = Q (.bool (!inB n lo hi)) h := by
  refine Ev.det (Ev_body (fd := c80) rfl rfl rfl ?_) Q
  by_cases h1 : n < lo
  · have : inB n lo hi = false := by simp [inB]; omega
    simp -implicitDefEqProofs (maxSteps := 999999) (disch := first | with_reducible rfl | omega | (simp only [nA, nS, nD] <;> omega) | fail) only [c80, go_sem, h1, this]
  · have : (!inB n lo hi) = decide (hi < n) := by rw [Bool.eq_iff_iff]; simp [inB]; omega
    simp -implicitDefEqProofs (maxSteps := 999999) (disch := first | with_reducible rfl | omega | (simp only [nA, nS, nD] <;> omega) | fail) only [c80, go_sem, h1, this]
theorem beyond_ev (s : Sd) (m : Int) (h : H) (Q : V → H → Prop) : Ev fnG fastA (.fn 81 [] []) [.agg (encD s), .int .i64 m] h Q = Q (.bool (!s.within m)) (h.add (.cells .rw (encD s))) := by
  refine Ev.det (Ev_body (fd := c81) rfl rfl rfl ?_) Q
  have z0 : ∀ b, q_iaa 3 1 (.ptr b 0) (.int .i64 0) = some (.ptr b 0) := fun b => rfl
  have z1 : ∀ b, q_iaa 3 1 (.ptr b 0) (.int .i64 1) = some (.ptr b 1) := fun b => rfl
  have z2 : ∀ b, q_iaa 3 1 (.ptr b 0) (.int .i64 2) = some (.ptr b 2) := fun b => rfl
  cases c1 : inB s.x 0 m
  · simp -implicitDefEqProofs (maxSteps := 999999) (disch := first | with_reducible rfl | omega | (simp only [nA, nS, nD] <;> omega) | fail) only [c81, go_sem, encD, z0, z1, z2, off_ev, c1, Bool.not_false, Sd.within, Bool.false_and]
  · cases c2 : inB s.y 0 m
    · simp -implicitDefEqProofs (maxSteps := 999999) (disch := first | with_reducible rfl | omega | (simp only [nA, nS, nD] <;> omega) | fail) only [c81, go_sem, encD, z0, z1, z2, off_ev, c1, c2, Bool.not_false, Bool.not_true, Sd.within, Bool.false_and, Bool.true_and]
    · simp -implicitDefEqProofs (maxSteps := 999999) (disch := first | with_reducible rfl | omega | (simp only [nA, nS, nD] <;> omega) | fail) only [c81, go_sem, encD, z0, z1, z2, off_ev, c1, c2, Bool.not_false, Bool.not_true, Sd.within, Bool.true_and, Bool.and_true]
theorem refRight_ev (s : Sd) (h : H) (hw : h.wf) (Q : V → H → Prop) (q : ∀ h', h.Sub h' → Q (.int .i64 (if s.within 20 = true then 0 else 3)) h') : Ev fnG fastA (.fn 39 [] []) [.agg (encD s)] h Q := by
  refine Ev_body (fd := c39) rfl rfl rfl ?_
  have hb := fun hh => beyond_ev s 20 hh
  simp only [encD] at hb
  have s2 : h.Sub ((h.add (.cells .rw [.int .i64 s.x, .int .i64 s.y, .int .i64 s.z])).add (.cells .rw [.int .i64 s.x, .int .i64 s.y, .int .i64 s.z])) := (by repeat (first | assumption | exact H.Sub.refl (by assumption) | refine H.Sub.add ?_ _ | refine H.Sub.set ?_ (by first | omega | (simp only [H.next_add, H.next_set, H.next_del] <;> omega)) (by first | omega | (simp only [H.next_add, H.next_set, H.next_del] <;> omega)) (by assumption) _))
  have q' := q _ s2
  cases c : s.within 20
  · rw [c] at q'
    simp -implicitDefEqProofs (maxSteps := 999999) (disch := first | with_reducible rfl | omega | (simp only [nA, nS, nD] <;> omega) | fail) only [c39, go_sem, encD, hb, c, Bool.not_false]
    exact q'
  · rw [c] at q'
    simp -implicitDefEqProofs (maxSteps := 999999) (disch := first | with_reducible rfl | omega | (simp only [nA, nS, nD] <;> omega) | fail) only [c39, go_sem, encD, hb, c, Bool.not_true]
    exact q'
end Go.Ab.Try
set_option linter.unusedSimpArgs false
set_option linter.unusedVariables false
namespace Go.Ab
end Go.Ab
namespace Go.Ab.Try
theorem all_step {α : Type} {l : List α} {p : α → Bool} {i : Nat} (hi : i < l.length) (h : (l.take i).all p = true) (h2 : p l[i] = true) : (l.take (i + 1)).all p = true := by
  rw [List.take_succ_eq_append_getElem hi, List.all_append, h]; simp [h2]
theorem all_false {α : Type} {l : List α} {p : α → Bool} {i : Nat} (hi : i < l.length) (h2 : p l[i] = false) : l.all p = false := by
  rw [Bool.eq_false_iff]; intro h
  rw [List.all_eq_true] at h
  rw [h _ (List.getElem_mem hi)] at h2; cases h2
set_option maxHeartbeats 1000000 in
theorem refCheck_ev {h : H} {v : V} {t : Tb} (hw : h.wf) (ht : TbIs h v t) (Q : V → H → Prop) (q : ∀ h', h.Sub h' → Q (.int .i64 (check t)) h') : Ev fnG fastA (.fn 16 [] []) [v] h Q := by
  obtain ⟨E, L, P, rfl, aE, aL, aP⟩ := ht
  have hlE := aE.lenE
  have hlL := aL.lenE
  have hlP := aP.lenE
  have bE := aE.boundE
  have bL := aL.boundE
  have bP := aP.boundE
  refine Ev_body (fd := c16) rfl rfl rfl ?_
  have s1 : h.Sub (h.add (.cells .rw [E, L, P])) := (by repeat (first | assumption | exact H.Sub.refl (by assumption) | refine H.Sub.add ?_ _ | refine H.Sub.set ?_ (by first | omega | (simp only [H.next_add, H.next_set, H.next_del] <;> omega)) (by first | omega | (simp only [H.next_add, H.next_set, H.next_del] <;> omega)) (by assumption) _))
  have g1 : (h.add (.cells .rw [E, L, P])).cells h.next = some [E, L, P] := cells_add_new rfl
  have hb := fun s m hh => beyond_ev s m hh
  simp only [encD] at hb
  by_cases c1 : inB t.eyes.length 1 6 = false ∨ inB t.lights.length 1 4 = false ∨ 9 < t.pieces.length
  · have hc : check t = 2 := by unfold check; rw [if_pos c1]
    rw [hc] at q
    cases d1 : inB t.eyes.length 1 6
    · simp -implicitDefEqProofs (maxSteps := 999999) (disch := first | with_reducible rfl | omega | (simp only [nA, nS, nD] <;> omega) | fail) only [c16, go_sem, g1, hlE, hlL, hlP, off_ev, d1, Bool.not_false]
      exact q _ s1
    cases d2 : inB t.lights.length 1 4
    · simp -implicitDefEqProofs (maxSteps := 999999) (disch := first | with_reducible rfl | omega | (simp only [nA, nS, nD] <;> omega) | fail) only [c16, go_sem, g1, hlE, hlL, hlP, off_ev, d1, d2, Bool.not_false, Bool.not_true]
      exact q _ s1
    rw [d1, d2] at c1
    have c3 : (9 : Int) < (t.pieces.length : Int) := by simp at c1; omega
    simp -implicitDefEqProofs (maxSteps := 999999) (disch := first | with_reducible rfl | omega | (simp only [nA, nS, nD] <;> omega) | fail) only [c16, go_sem, g1, hlE, hlL, hlP, off_ev, d1, d2, Bool.not_false, Bool.not_true, c3]
    exact q _ s1
  have d := c1
  simp only [not_or, Bool.not_eq_false] at d
  obtain ⟨d1, d2, d3⟩ := d
  have c3 : ¬ (9 : Int) < (t.pieces.length : Int) := by omega
  simp -implicitDefEqProofs (maxSteps := 999999) (disch := first | with_reducible rfl | omega | (simp only [nA, nS, nD] <;> omega) | fail) only [c16, go_sem, g1, hlE, hlL, hlP, off_ev, d1, d2, Bool.not_false, Bool.not_true, c3]
  generalize h.add (.cells .rw [E, L, P]) = h1 at s1 g1 ⊢
  refine W_count t.eyes.length (fun i s => ∃ tm h', s = ⟨tm, h', []⟩ ∧ h1.Sub h' ∧ (t.eyes.take i).all Ey.ok = true ∧ (Opd.t 1).ev tm = .ptr h.next 0 ∧ (Opd.t 3).ev tm = .int .i64 (i : Int))
    ?_ ?_ (i := 0) (Nat.zero_le _) ⟨_, _, rfl, H.Sub.refl s1.wf, rfl, (by simp [ev_c, ev_put] <;> rfl), (by simp [ev_c, ev_put] <;> rfl)⟩
  · rintro i s hi ⟨tm, h', rfl, hs, hall, t1, t3⟩
    have hi' : (i : Int) < (t.eyes.length : Int) := by omega
    have sA := s1.trans hs
    obtain ⟨b, o, c, cs, eb, hc, hq, hg, hn, hn0⟩ := (aE.mono sA).at hi
    obtain ⟨e, ee⟩ : ∃ e, t.eyes[i] = e := ⟨_, rfl⟩
    rw [ee] at hg
    have hg3 : getN (o + i * 4) 3 cs = some [.int .i64 e.s.x, .int .i64 e.s.y, .int .i64 e.s.z] := getN_less hg (k := 3) (by omega)
    have hfr : nth (o + i * 4 + 3) cs = some (.int .i64 e.frm) := by rw [hn 3 (by omega), ee]; rfl
    have sB := (H.Sub.refl hs.wf).add (.cells .rw [.int .i64 e.s.x, .int .i64 e.s.y, .int .i64 e.s.z])
    have r1 := hs.cells g1
    have r2 := sB.cells r1
    have hc2 := sB.cells hc
    cases e1 : e.s.within 4
    · have hbad : t.eyes.all Ey.ok = false := all_false hi (by rw [ee]; simp [Ey.ok, e1])
      have hc3 : check t = 3 := by unfold check; rw [if_neg c1, if_pos hbad]
      rw [hc3] at q
      simp -implicitDefEqProofs (maxSteps := 999999) (disch := first | with_reducible rfl | omega | (simp only [nA, nS, nD] <;> omega) | fail) only [go_sem, t1, t3, hi', r1, r2, hlE, hq (nat_cst i), hc, hg3, hb, e1, Bool.not_false]
      exact q _ (sA.trans sB)
    · cases e2 : inB e.frm 1 400
      · have hbad : t.eyes.all Ey.ok = false := all_false hi (by rw [ee]; simp [Ey.ok, e1, e2])
        have hc3 : check t = 3 := by unfold check; rw [if_neg c1, if_pos hbad]
        rw [hc3] at q
        simp -implicitDefEqProofs (maxSteps := 999999) (disch := first | with_reducible rfl | omega | (simp only [nA, nS, nD] <;> omega) | fail) only [go_sem, t1, t3, hi', r1, r2, hlE, hq (nat_cst i), hc, hc2, hg3, hb, e1, hfr, off_ev, e2, Bool.not_false, Bool.not_true]
        exact q _ (sA.trans sB)
      · simp -implicitDefEqProofs (maxSteps := 999999) (disch := first | with_reducible rfl | omega | (simp only [nA, nS, nD] <;> omega) | fail) only [go_sem, t1, t3, hi', r1, r2, hlE, hq (nat_cst i), hc, hc2, hg3, hb, e1, hfr, off_ev, e2, Bool.not_false, Bool.not_true, wr_succ]
        exact ⟨_, _, rfl, hs.trans sB, all_step hi hall (by rw [ee]; simp [Ey.ok, e1, e2]), (by simp [ev_c, ev_put, t1] <;> rfl), (by simp [ev_c, ev_put] <;> rfl)⟩
  · rintro s ⟨tm, h', rfl, hs, hall, t1, t3⟩
    rw [List.take_length] at hall
    have c4 : ¬ t.eyes.all Ey.ok = false := by rw [hall]; simp
    have r1 := hs.cells g1
    simp -implicitDefEqProofs (maxSteps := 999999) (disch := first | with_reducible rfl | omega | (simp only [nA, nS, nD] <;> omega) | fail) only [go_sem, t1, t3, r1, hlE, Int.lt_irrefl]
    refine W_count t.lights.length (fun i s => ∃ tm h', s = ⟨tm, h', []⟩ ∧ h1.Sub h' ∧ (t.lights.take i).all (fun s => s.within 3) = true ∧ (Opd.t 1).ev tm = .ptr h.next 0 ∧ (Opd.t 4).ev tm = .int .i64 (i : Int))
      ?_ ?_ (i := 0) (Nat.zero_le _) ⟨_, _, rfl, hs, rfl, (by simp [ev_c, ev_put, t1] <;> rfl), (by simp [ev_c, ev_put] <;> rfl)⟩ <;> clear t1 t3 r1 hs tm
    · rintro i s hi ⟨tm, h', rfl, hs, hall, t1, t4⟩
      have hi' : (i : Int) < (t.lights.length : Int) := by omega
      have sA := s1.trans hs
      obtain ⟨b, o, c, cs, eb, hc, hq, hg, hn, hn0⟩ := (aL.mono sA).at hi
      obtain ⟨e, ee⟩ : ∃ e, t.lights[i] = e := ⟨_, rfl⟩
      rw [ee] at hg
      simp only [encD] at hg
      have sB := (H.Sub.refl hs.wf).add (.cells .rw [.int .i64 e.x, .int .i64 e.y, .int .i64 e.z])
      have r1 := hs.cells g1
      cases e1 : e.within 3
      · have hbad : (t.lights.all fun s => s.within 3) = false := all_false hi (by rw [ee]; exact e1)
        have hc3 : check t = 3 := by unfold check; rw [if_neg c1, if_neg c4, if_pos (.inl hbad)]
        rw [hc3] at q
        simp -implicitDefEqProofs (maxSteps := 999999) (disch := first | with_reducible rfl | omega | (simp only [nA, nS, nD] <;> omega) | fail) only [go_sem, t1, t4, hi', r1, hlL, hq (nat_cst i), hc, hg, hb, e1, Bool.not_false]
        exact q _ (sA.trans sB)
      · simp -implicitDefEqProofs (maxSteps := 999999) (disch := first | with_reducible rfl | omega | (simp only [nA, nS, nD] <;> omega) | fail) only [go_sem, t1, t4, hi', r1, hlL, hq (nat_cst i), hc, hg, hb, e1, Bool.not_true, wr_succ]
        exact ⟨_, _, rfl, hs.trans sB, all_step hi hall (by rw [ee]; exact e1), (by simp [ev_c, ev_put, t1] <;> rfl), (by simp [ev_c, ev_put] <;> rfl)⟩
    · rintro s ⟨tm, h', rfl, hs, hall2, t1, t4⟩
      rw [List.take_length] at hall2
      have r1 := hs.cells g1
      simp -implicitDefEqProofs (maxSteps := 999999) (disch := first | with_reducible rfl | omega | (simp only [nA, nS, nD] <;> omega) | fail) only [go_sem, t1, t4, r1, hlL, Int.lt_irrefl]
      refine W_count t.pieces.length (fun i s => ∃ tm h', s = ⟨tm, h', []⟩ ∧ h1.Sub h' ∧ (t.pieces.take i).all (fun s => s.within 20) = true ∧ (Opd.t 1).ev tm = .ptr h.next 0 ∧ (Opd.t 5).ev tm = .int .i64 (i : Int))
        ?_ ?_ (i := 0) (Nat.zero_le _) ⟨_, _, rfl, hs, rfl, (by simp [ev_c, ev_put, t1] <;> rfl), (by simp [ev_c, ev_put] <;> rfl)⟩ <;> clear t1 t4 r1 hs tm
      · rintro i s hi ⟨tm, h', rfl, hs, hall, t1, t5⟩
        have hi' : (i : Int) < (t.pieces.length : Int) := by omega
        have sA := s1.trans hs
        obtain ⟨b, o, c, cs, eb, hc, hq, hg, hn, hn0⟩ := (aP.mono sA).at hi
        obtain ⟨e, ee⟩ : ∃ e, t.pieces[i] = e := ⟨_, rfl⟩
        rw [ee] at hg
        simp only [encD] at hg
        have sB := (H.Sub.refl hs.wf).add (.cells .rw [.int .i64 e.x, .int .i64 e.y, .int .i64 e.z])
        have r1 := hs.cells g1
        cases e1 : e.within 20
        · have hbad : (t.pieces.all fun s => s.within 20) = false := all_false hi (by rw [ee]; exact e1)
          have hc3 : check t = 3 := by unfold check; rw [if_neg c1, if_neg c4, if_pos (.inr hbad)]
          rw [hc3] at q
          simp -implicitDefEqProofs (maxSteps := 999999) (disch := first | with_reducible rfl | omega | (simp only [nA, nS, nD] <;> omega) | fail) only [go_sem, t1, t5, hi', r1, hlP, hq (nat_cst i), hc, hg, hb, e1, Bool.not_false]
          exact q _ (sA.trans sB)
        · simp -implicitDefEqProofs (maxSteps := 999999) (disch := first | with_reducible rfl | omega | (simp only [nA, nS, nD] <;> omega) | fail) only [go_sem, t1, t5, hi', r1, hlP, hq (nat_cst i), hc, hg, hb, e1, Bool.not_true, wr_succ]
          exact ⟨_, _, rfl, hs.trans sB, all_step hi hall (by rw [ee]; exact e1), (by simp [ev_c, ev_put, t1] <;> rfl), (by simp [ev_c, ev_put] <;> rfl)⟩
      · rintro s ⟨tm, h', rfl, hs, hall3, t1, t5⟩
        rw [List.take_length] at hall3
        have hc0 : check t = 0 := by unfold check; rw [if_neg c1, if_neg c4, if_neg (by simp [hall2, hall3])]
        rw [hc0] at q
        simp -implicitDefEqProofs (maxSteps := 999999) (disch := first | with_reducible rfl | omega | (simp only [nA, nS, nD] <;> omega) | fail) only [go_sem, t1, t5, hs.cells g1, hlP, Int.lt_irrefl]
        exact q _ (s1.trans hs)
theorem dif_abs (a b : Int) : (if a - b < 0 then 0 - (a - b) else a - b) = dif a b := by unfold dif; split <;> omega
set_option maxHeartbeats 1000000 in
theorem refSees_ev {h : H} {v : V} {t : Tb} (hw : h.wf) (ht : TbIs h v t) (g : Good t) {i k : Nat} (hi : i < t.eyes.length) (hk : k < t.lights.length) {a b : Sd} (ha : InS a 20) (hb : InS b 20) (Q : V → H → Prop)
    (q : ∀ h', h.Sub h' → Q (.int .i64 (seesN t.eyes[i].s t.lights[k] a b)) h') : Ev fnG fastA (.fn 58 [] []) [v, .agg [.int .i64 (i : Int), .int .i64 (k : Int)], .agg (encD a), .agg (encD b)] h Q := by
  obtain ⟨E, L, P, rfl, aE, aL, aP⟩ := ht
  have ge := (g.eye _ (List.getElem_mem hi)).1
  have gl := g.light _ (List.getElem_mem hk)
  obtain ⟨bE, oE, cE, csE, eE, hcE, hqE, hgE, _, _⟩ := aE.at hi
  obtain ⟨bL, oL, cL, csL, eL, hcL, hqL, hgL, _, _⟩ := aL.at hk
  obtain ⟨e, ee⟩ : ∃ e, t.eyes[i] = e := ⟨_, rfl⟩
  obtain ⟨l, el⟩ : ∃ l, t.lights[k] = l := ⟨_, rfl⟩
  rw [ee, el] at q
  rw [ee] at ge hgE
  rw [el] at gl hgL
  have hgE3 : getN (oE + i * 4) 3 csE = some [.int .i64 e.s.x, .int .i64 e.s.y, .int .i64 e.s.z] := getN_less hgE (k := 3) (by omega)
  simp only [encD] at hgL
  refine Ev_body (fd := c58) rfl rfl rfl ?_
  have hbE : bE < h.next := by obtain ⟨_, h1⟩ := H.cells_eq hcE; exact hw _ _ h1
  have hbL : bL < h.next := by obtain ⟨_, h1⟩ := H.cells_eq hcL; exact hw _ _ h1
  simp -implicitDefEqProofs (maxSteps := 999999) (disch := first | with_reducible rfl | omega | (simp only [nA, nS, nD] <;> omega) | fail) only [c58, go_sem, encD, evQ_ld, hqE (nat_cst i), hqL (nat_cst k), hcE, hcL, hgE3, hgL]
  refine W_count 3 (fun j s => ∃ tm h', s = ⟨tm, h', []⟩ ∧ h.Sub h' ∧ h'.cells (h.next + 1 + 1) = some [.int .i64 a.x, .int .i64 a.y, .int .i64 a.z] ∧ h'.cells (h.next + 1 + 1 + 1) = some [.int .i64 b.x, .int .i64 b.y, .int .i64 b.z] ∧
      h'.cells (h.next + 1 + 1 + 1 + 1) = some [.int .i64 e.s.x, .int .i64 e.s.y, .int .i64 e.s.z] ∧ h'.cells (h.next + 1 + 1 + 1 + 1 + 1) = some [.int .i64 l.x, .int .i64 l.y, .int .i64 l.z] ∧
      (Opd.t 6).ev tm = .ptr (h.next + 1 + 1) 0 ∧ (Opd.t 7).ev tm = .ptr (h.next + 1 + 1 + 1) 0 ∧ (Opd.t 9).ev tm = .ptr (h.next + 1 + 1 + 1 + 1) 0 ∧ (Opd.t 10).ev tm = .ptr (h.next + 1 + 1 + 1 + 1 + 1) 0 ∧ (Opd.t 11).ev tm = .int .i64 (part e.s l a b j) ∧ (Opd.t 12).ev tm = .int .i64 (j : Int))
    ?_ ?_ (i := 0) (Nat.zero_le _) ⟨_, _, rfl, (by repeat (first | assumption | exact H.Sub.refl (by assumption) | refine H.Sub.add ?_ _ | refine H.Sub.set ?_ (by first | omega | (simp only [H.next_add, H.next_set, H.next_del] <;> omega)) (by first | omega | (simp only [H.next_add, H.next_set, H.next_del] <;> omega)) (by assumption) _)), by simp -implicitDefEqProofs (maxSteps := 999999) (disch := first | with_reducible rfl | omega | (simp only [nA, nS, nD] <;> omega) | fail) only [go_sem], by simp -implicitDefEqProofs (maxSteps := 999999) (disch := first | with_reducible rfl | omega | (simp only [nA, nS, nD] <;> omega) | fail) only [go_sem], by simp -implicitDefEqProofs (maxSteps := 999999) (disch := first | with_reducible rfl | omega | (simp only [nA, nS, nD] <;> omega) | fail) only [go_sem], by simp -implicitDefEqProofs (maxSteps := 999999) (disch := first | with_reducible rfl | omega | (simp only [nA, nS, nD] <;> omega) | fail) only [go_sem], (by simp [ev_c, ev_put] <;> rfl), (by simp [ev_c, ev_put] <;> rfl), (by simp [ev_c, ev_put] <;> rfl), (by simp [ev_c, ev_put] <;> rfl), (by simp [ev_c, ev_put, part] <;> rfl), (by simp [ev_c, ev_put] <;> rfl)⟩
  · rintro j s hj ⟨tm, h', rfl, hs, r1, r2, r3, r4, t6, t7, t9, t10, t11, t12⟩
    have hj' : (j : Int) < 3 := by omega
    have na := sd_nth a hj
    have nb := sd_nth b hj
    have ne := sd_nth e.s hj
    have nl := sd_nth l hj
    simp only [encD] at na nb ne nl
    have b1 := sd_bd ha hj
    have b2 := sd_bd hb hj
    have b3 := term_bd ge gl ha hb hj
    have b4 := part_bd ge gl ha hb j (by omega)
    have b5 := b3.2
    unfold term at b5
    have st : part e.s l a b j + dif (a.at j) (b.at j) * e.s.at j * l.at j = part e.s l a b (j + 1) := rfl
    have hda := dif_abs (a.at j) (b.at j)
    by_cases hc : a.at j - b.at j < 0
    · rw [if_pos hc] at hda
      simp -implicitDefEqProofs (maxSteps := 999999) (disch := first | with_reducible rfl | omega | (simp only [nA, nS, nD] <;> omega) | fail) only [go_sem, t6, t7, t9, t10, t11, t12, hj', q_iaa_ptr (nat_cst j) hj, Nat.mul_one, r1, r2, r3, r4, na, nb, ne, nl, wr_in, evQ_ld, hc, hda, st, wr_succ]
      exact ⟨_, _, rfl, hs, r1, r2, r3, r4, (by simp [ev_c, ev_put, t6] <;> rfl), (by simp [ev_c, ev_put, t7] <;> rfl), (by simp [ev_c, ev_put, t9] <;> rfl), (by simp [ev_c, ev_put, t10] <;> rfl), (by simp [ev_c, ev_put] <;> rfl), (by simp [ev_c, ev_put] <;> rfl)⟩
    · rw [if_neg hc] at hda
      have hdn : ¬ dif (a.at j) (b.at j) < 0 := by omega
      simp -implicitDefEqProofs (maxSteps := 999999) (disch := first | with_reducible rfl | omega | (simp only [nA, nS, nD] <;> omega) | fail) only [go_sem, t6, t7, t9, t10, t11, t12, hj', q_iaa_ptr (nat_cst j) hj, Nat.mul_one, r1, r2, r3, r4, na, nb, ne, nl, wr_in, evQ_ld, hdn, hda, st, wr_succ]
      exact ⟨_, _, rfl, hs, r1, r2, r3, r4, (by simp [ev_c, ev_put, t6] <;> rfl), (by simp [ev_c, ev_put, t7] <;> rfl), (by simp [ev_c, ev_put, t9] <;> rfl), (by simp [ev_c, ev_put, t10] <;> rfl), (by simp [ev_c, ev_put] <;> rfl), (by simp [ev_c, ev_put] <;> rfl)⟩
  · rintro s ⟨tm, h', rfl, hs, r1, r2, r3, r4, t6, t7, t9, t10, t11, t12⟩
    have hnl : ¬ ((3 : Nat) : Int) < 3 := by omega
    simp -implicitDefEqProofs (maxSteps := 999999) (disch := first | with_reducible rfl | omega | (simp only [nA, nS, nD] <;> omega) | fail) only [go_sem, t6, t7, t9, t10, t11, t12, hnl]
    exact q _ hs
end Go.Ab.Try
set_option linter.unusedSimpArgs false
set_option linter.unusedVariables false
namespace Go.Ab.Try
def seesI (t : Tb) (p r : Int) (a b : Sd) : Int := match t.eyes[p.toNat]?, t.lights[r.toNat]? with
  | some e, some l => seesN e.s l a b
  | _, _ => 0
def seesE (t : Tb) (p r : Int) (a b : Sd) : Int := if check t ≠ 0 then check t else if lookB t p r = false then 1 else if a.within 20 = false ∨ b.within 20 = false then 3 else 0
def seesR (t : Tb) (p r : Int) (a b : Sd) : Int := if seesE t p r a b = 0 then seesI t p r a b else 0
theorem opened_use {h : H} {E L P : V} {t : Tb} (hw : h.wf) (ht : TbIs h (.agg [E, L, P]) t) (Q : V → H → Prop) (q0 : ∀ h', h.Sub h' → check t ≠ 0 → Q (.tup [.nilp, .int .i64 (check t)]) h') (q1 : ∀ h' d, h.Sub h' → check t = 0 → Good t → DkAt h' d t → Q (.tup [.ptr d 0, .int .i64 0]) h') :
    Ev fnG fastA (.fn 85 [] []) [.agg [E, L, P]] h Q :=
  (opened_ev hw ht).mono fun u h' hu => by
    obtain ⟨s, hu⟩ := hu
    rcases hu with ⟨c, rfl⟩ | ⟨c, d, rfl, _, hd⟩
    · exact q0 _ s c
    · exact q1 _ d s c (check_iff.1 c) hd
set_option maxHeartbeats 1000000 in
theorem Sees_ev {h : H} {v : V} {t : Tb} (hw : h.wf) (ht : TbIs h v t) (p r : Int) (a b : Sd) (Q : V → H → Prop) (q : ∀ h', h.Sub h' → Q (.tup [.int .i64 (seesR t p r a b), .int .i64 (seesE t p r a b)]) h') :
    Ev fnG fastA (.fn 35 [] []) [v, .agg [.int .i64 p, .int .i64 r], .agg (encD a), .agg (encD b)] h Q := by
  have ht0 := ht
  obtain ⟨E, L, P, rfl, aE, aL, aP⟩ := ht
  refine Ev_body (fd := c35) rfl rfl rfl ?_
  have s4 : h.Sub ((((h.add (.cells .rw [E, L, P])).add (.cells .rw [.int .i64 p, .int .i64 r])).add (.cells .rw [.int .i64 a.x, .int .i64 a.y, .int .i64 a.z])).add (.cells .rw [.int .i64 b.x, .int .i64 b.y, .int .i64 b.z])) := (by repeat (first | assumption | exact H.Sub.refl (by assumption) | refine H.Sub.add ?_ _ | refine H.Sub.set ?_ (by first | omega | (simp only [H.next_add, H.next_set, H.next_del] <;> omega)) (by first | omega | (simp only [H.next_add, H.next_set, H.next_del] <;> omega)) (by assumption) _))
  have q2 : ((((h.add (.cells .rw [E, L, P])).add (.cells .rw [.int .i64 p, .int .i64 r])).add (.cells .rw [.int .i64 a.x, .int .i64 a.y, .int .i64 a.z])).add (.cells .rw [.int .i64 b.x, .int .i64 b.y, .int .i64 b.z])).cells (h.next + 1) = some [.int .i64 p, .int .i64 r] := by simp -implicitDefEqProofs (maxSteps := 999999) (disch := first | with_reducible rfl | omega | (simp only [nA, nS, nD] <;> omega) | fail) only [go_sem]
  have q3 : ((((h.add (.cells .rw [E, L, P])).add (.cells .rw [.int .i64 p, .int .i64 r])).add (.cells .rw [.int .i64 a.x, .int .i64 a.y, .int .i64 a.z])).add (.cells .rw [.int .i64 b.x, .int .i64 b.y, .int .i64 b.z])).cells (h.next + 1 + 1) = some [.int .i64 a.x, .int .i64 a.y, .int .i64 a.z] := by simp -implicitDefEqProofs (maxSteps := 999999) (disch := first | with_reducible rfl | omega | (simp only [nA, nS, nD] <;> omega) | fail) only [go_sem]
  have q4 : ((((h.add (.cells .rw [E, L, P])).add (.cells .rw [.int .i64 p, .int .i64 r])).add (.cells .rw [.int .i64 a.x, .int .i64 a.y, .int .i64 a.z])).add (.cells .rw [.int .i64 b.x, .int .i64 b.y, .int .i64 b.z])).cells (h.next + 1 + 1 + 1) = some [.int .i64 b.x, .int .i64 b.y, .int .i64 b.z] := by simp -implicitDefEqProofs (maxSteps := 999999) (disch := first | with_reducible rfl | omega | (simp only [nA, nS, nD] <;> omega) | fail) only [go_sem]
  simp -implicitDefEqProofs (maxSteps := 999999) (disch := first | with_reducible rfl | omega | (simp only [nA, nS, nD] <;> omega) | fail) only [c35, go_sem, encD]
  generalize ((((h.add (.cells .rw [E, L, P])).add (.cells .rw [.int .i64 p, .int .i64 r])).add (.cells .rw [.int .i64 a.x, .int .i64 a.y, .int .i64 a.z])).add (.cells .rw [.int .i64 b.x, .int .i64 b.y, .int .i64 b.z])) = h4 at s4 q2 q3 q4 ⊢
  refine opened_use s4.wf (ht0.mono s4) _ (fun h5 s45 c => ?_) fun h5 d s45 c g hd => ?_
  · have e1 : seesE t p r a b = check t := by unfold seesE; rw [if_pos c]
    have q' := q _ (s4.trans s45)
    unfold seesR at q'
    rw [e1, if_neg c] at q'
    simp -implicitDefEqProofs (maxSteps := 999999) (disch := first | with_reducible rfl | omega | (simp only [nA, nS, nD] <;> omega) | fail) only [go_sem, ne_eq, c, not_false_eq_true]
    exact q'
  have s5 := s4.trans s45
  simp -implicitDefEqProofs (maxSteps := 999999) (disch := first | with_reducible rfl | omega | (simp only [nA, nS, nD] <;> omega) | fail) only [go_sem, ne_eq, not_true_eq_false, s45.cells q2]
  refine look_ev s5.wf hd g p r _ fun h6 s56 => ?_
  have s46 := s45.trans s56
  have s6 := s5.trans s56
  cases cl : lookB t p r
  · have e1 : seesE t p r a b = 1 := by unfold seesE; rw [if_neg (by simp [c]), if_pos cl]
    have q' := q _ s6
    unfold seesR at q'
    rw [e1, if_neg (by decide)] at q'
    simp -implicitDefEqProofs (maxSteps := 999999) (disch := first | with_reducible rfl | omega | (simp only [nA, nS, nD] <;> omega) | fail) only [go_sem, Bool.not_false]
    exact q'
  have hr := fun (s : Sd) => right_ev (h := h6) s6.wf s
  simp only [encD] at hr
  simp -implicitDefEqProofs (maxSteps := 999999) (disch := first | with_reducible rfl | omega | (simp only [nA, nS, nD] <;> omega) | fail) only [go_sem, Bool.not_true, s46.cells q3]
  refine hr a _ fun h7 s67 => ?_
  have s47 := s46.trans s67
  cases ca : a.within 20
  · have e1 : seesE t p r a b = 3 := by unfold seesE; rw [if_neg (by simp [c]), if_neg (by simp [cl]), if_pos (.inl ca)]
    have q' := q _ (s4.trans s47)
    unfold seesR at q'
    rw [e1, if_neg (by decide)] at q'
    simp -implicitDefEqProofs (maxSteps := 999999) (disch := first | with_reducible rfl | omega | (simp only [nA, nS, nD] <;> omega) | fail) only [go_sem, Bool.not_false]
    exact q'
  have hr := right_ev (h := h7) s47.wf b
  simp only [encD] at hr
  simp -implicitDefEqProofs (maxSteps := 999999) (disch := first | with_reducible rfl | omega | (simp only [nA, nS, nD] <;> omega) | fail) only [go_sem, Bool.not_true, s47.cells q4]
  refine hr _ fun h8 s78 => ?_
  have s48 := s47.trans s78
  cases cb : b.within 20
  · have e1 : seesE t p r a b = 3 := by unfold seesE; rw [if_neg (by simp [c]), if_neg (by simp [cl]), if_pos (.inr cb)]
    have q' := q _ (s4.trans s48)
    unfold seesR at q'
    rw [e1, if_neg (by decide)] at q'
    simp -implicitDefEqProofs (maxSteps := 999999) (disch := first | with_reducible rfl | omega | (simp only [nA, nS, nD] <;> omega) | fail) only [go_sem, Bool.not_false]
    exact q'
  have e1 : seesE t p r a b = 0 := by unfold seesE; rw [if_neg (by simp [c]), if_neg (by simp [cl]), if_neg (by simp [ca, cb])]
  simp only [lookB, decide_eq_true_eq] at cl
  obtain ⟨i, rfl⟩ := Int.eq_ofNat_of_zero_le cl.1.1
  obtain ⟨k, rfl⟩ := Int.eq_ofNat_of_zero_le cl.2.1
  have hi : i < t.eyes.length := by omega
  have hk : k < t.lights.length := by omega
  have e2 : seesR t (i : Int) (k : Int) a b = seesN t.eyes[i].s t.lights[k] a b := by
    unfold seesR seesI
    rw [if_pos e1, Int.toNat_natCast, Int.toNat_natCast, List.getElem?_eq_getElem hi, List.getElem?_eq_getElem hk]
  have hs := sees_ev (h := h8) s48.wf (hd.mono ((s56.trans s67).trans s78)) g hi hk (within_iff.1 ca) (within_iff.1 cb)
  simp only [encD] at hs
  simp -implicitDefEqProofs (maxSteps := 999999) (disch := first | with_reducible rfl | omega | (simp only [nA, nS, nD] <;> omega) | fail) only [go_sem, Bool.not_true, s48.cells q2, s48.cells q3, s48.cells q4]
  refine hs _ fun h9 s89 => ?_
  simp -implicitDefEqProofs (maxSteps := 999999) (disch := first | with_reducible rfl | omega | (simp only [nA, nS, nD] <;> omega) | fail) only [go_sem]
  have q' := q _ (s4.trans (s48.trans s89))
  rw [e1, e2] at q'
  exact q'
end Go.Ab.Try
