/- Sees, Apart, Match, Scrap. Tables copied and compared; the reference's table. The reference's table, and its errors. The reference's Check, Sees, Tells, Alike, Apart. -/
import Derived.Test.YtkjbamlcgojkmaaG2
set_option linter.unusedSimpArgs false
set_option linter.unusedVariables false
namespace Go.Ab
theorem own1_lit {h : H} {n : Int} : SlAt (h.add (.cells .rw [.int .i64 n])) (.sl h.next 0 1 (.fix 1)) 1 [[.int .i64 n]] := SlAt.new _ rfl rfl (by simp) (by simp) (by simp)
namespace Try
theorem awake_eq (h : H) (Q : V → H → Prop) : Ev fnG fastA (.fn 13 [] []) [] h Q = Q (.bool true) h := Ev.det ⟨1, .bool true, h, rfl, rfl, rfl⟩ Q
theorem allOne_flat {α : Type} {enc : α → List V} (h : ∀ a, allOne (enc a) = true) (l : List α) : allOne (l.map enc).flatten = true := by
  rw [allOne_eq]
  intro v hv
  obtain ⟨r, hr, hvr⟩ := List.mem_flatten.1 hv
  obtain ⟨a, _, rfl⟩ := List.mem_map.1 hr
  exact allOne_eq.1 (h a) v hvr
def greatT (t : Tb) : Bool := decide (12 < t.eyes.length ∨ 12 < t.lights.length ∨ 15 < t.pieces.length)
theorem great_ev {h : H} {v : V} {t : Tb} (hw : h.wf) (ht : TbIs h v t) (Q : V → H → Prop) (q : ∀ h', h.Sub h' → Q (.bool (greatT t)) h') : Ev fnG fastA (.fn 12 [] []) [v] h Q := by
  obtain ⟨E, L, P, rfl, aE, aL, aP⟩ := ht
  have hlE := aE.lenE
  have hlL := aL.lenE
  have hlP := aP.lenE
  refine Ev_body (fd := c12) rfl rfl rfl ?_
  have q' := q _ ((H.Sub.refl hw).add (.cells .rw [E, L, P]))
  by_cases c1 : 12 < (t.eyes.length : Int)
  · simp -implicitDefEqProofs (maxSteps := 999999) (disch := first | with_reducible rfl | omega | (simp only [nA, nS, nD] <;> omega) | fail) only [c12, go_sem, hlE, hlL, hlP, c1]
    have e : greatT t = true := by simp only [greatT, decide_eq_true_eq]; omega
    rw [e] at q'; exact q'
  by_cases c2 : 12 < (t.lights.length : Int)
  · simp -implicitDefEqProofs (maxSteps := 999999) (disch := first | with_reducible rfl | omega | (simp only [nA, nS, nD] <;> omega) | fail) only [c12, go_sem, hlE, hlL, hlP, c1, c2]
    have e : greatT t = true := by simp only [greatT, decide_eq_true_eq]; omega
    rw [e] at q'; exact q'
  · simp -implicitDefEqProofs (maxSteps := 999999) (disch := first | with_reducible rfl | omega | (simp only [nA, nS, nD] <;> omega) | fail) only [c12, go_sem, hlE, hlL, hlP, c1, c2]
    have e : greatT t = decide (15 < (t.pieces.length : Int)) := by rw [Bool.eq_iff_iff]; simp only [greatT, decide_eq_true_eq]; omega
    rw [e] at q'; exact q'
theorem dupEye_ev {h : H} {x : V} {l : List Ey} (hw : h.wf) (hx : SlAt h x 4 (l.map encE)) (hl : l.length ≤ 1000000) (Q : V → H → Prop) :
    Ev fnG fastA (.fn 77 [] []) [x] h Q = Q (.sl h.next 0 l.length (.fix l.length)) (h.add (.cells .rw (l.map encE).flatten)) := by
  refine Ev.det (Ev_body (fd := c77) rfl rfl rfl ?_) Q
  simp -implicitDefEqProofs (maxSteps := 999999) (disch := first | with_reducible rfl | omega | (simp only [nA, nS, nD] <;> omega) | fail) only [c77, go_sem, hx.lenE, a_msl_0n]
  have := dup_core (by_ := 32) (z := [.int .i64 0, .int .i64 0, .int .i64 0, .int .i64 0]) hx hw rfl (by omega) (allOne_flat (fun a => rfl) l)
  rw [List.length_map] at this
  simp -implicitDefEqProofs (maxSteps := 999999) (disch := first | with_reducible rfl | omega | (simp only [nA, nS, nD] <;> omega) | fail) only [go_sem, this]
theorem dupLight_ev {h : H} {x : V} {l : List Sd} (hw : h.wf) (hx : SlAt h x 3 (l.map encD)) (hl : l.length ≤ 1000000) (Q : V → H → Prop) :
    Ev fnG fastA (.fn 78 [] []) [x] h Q = Q (.sl h.next 0 l.length (.fix l.length)) (h.add (.cells .rw (l.map encD).flatten)) := by
  refine Ev.det (Ev_body (fd := c78) rfl rfl rfl ?_) Q
  simp -implicitDefEqProofs (maxSteps := 999999) (disch := first | with_reducible rfl | omega | (simp only [nA, nS, nD] <;> omega) | fail) only [c78, go_sem, hx.lenE, a_msl_0n]
  have := dup_core (by_ := 24) (z := [.int .i64 0, .int .i64 0, .int .i64 0]) hx hw rfl (by omega) (allOne_flat (fun a => rfl) l)
  rw [List.length_map] at this
  simp -implicitDefEqProofs (maxSteps := 999999) (disch := first | with_reducible rfl | omega | (simp only [nA, nS, nD] <;> omega) | fail) only [go_sem, this]
theorem dupShade_ev {h : H} {x : V} {l : List Sd} (hw : h.wf) (hx : SlAt h x 3 (l.map encD)) (hl : l.length ≤ 1000000) (Q : V → H → Prop) :
    Ev fnG fastA (.fn 79 [] []) [x] h Q = Q (.sl h.next 0 l.length (.fix l.length)) (h.add (.cells .rw (l.map encD).flatten)) := by
  refine Ev.det (Ev_body (fd := c79) rfl rfl rfl ?_) Q
  simp -implicitDefEqProofs (maxSteps := 999999) (disch := first | with_reducible rfl | omega | (simp only [nA, nS, nD] <;> omega) | fail) only [c79, go_sem, hx.lenE, a_msl_0n]
  have := dup_core (by_ := 24) (z := [.int .i64 0, .int .i64 0, .int .i64 0]) hx hw rfl (by omega) (allOne_flat (fun a => rfl) l)
  rw [List.length_map] at this
  simp -implicitDefEqProofs (maxSteps := 999999) (disch := first | with_reducible rfl | omega | (simp only [nA, nS, nD] <;> omega) | fail) only [go_sem, this]
theorem SlAt.full {h : H} {b n : Nat} {k : Kd} {c : Cap} {sz : Nat} {rows : List (List V)} (hn : n = rows.length) (hb : h.get b = some (.cells k rows.flatten)) (hsz : ∀ r ∈ rows, r.length = sz) (hl : rows.length ≤ 1000000) : SlAt h (.sl b 0 n c) sz rows := by
  subst hn
  refine ⟨hsz, by omega, .inr ⟨b, 0, c, _, rfl, .inr (cells_of hb), getN_eq.2 ⟨?_, ?_⟩⟩⟩
  · rw [List.drop_zero, ← flatten_len hsz, List.take_length]
  · rw [flatten_len hsz]; omega
def TbNew (h0 h : H) (v : V) (t : Tb) : Prop := ∃ a b c, v = .agg [.sl a 0 t.eyes.length (.fix t.eyes.length), .sl b 0 t.lights.length (.fix t.lights.length), .sl c 0 t.pieces.length (.fix t.pieces.length)] ∧ (h0.next ≤ a ∧ a < h.next) ∧ (h0.next ≤ b ∧ b < h.next) ∧ (h0.next ≤ c ∧ c < h.next) ∧
  (a ≠ b ∧ a ≠ c ∧ b ≠ c) ∧ h.get a = some (.cells .rw (t.eyes.map encE).flatten) ∧ h.get b = some (.cells .rw (t.lights.map encD).flatten) ∧ h.get c = some (.cells .rw (t.pieces.map encD).flatten)
def Small (t : Tb) : Prop := t.eyes.length ≤ 1000 ∧ t.lights.length ≤ 1000 ∧ t.pieces.length ≤ 1000
theorem TbNew.is {h0 h : H} {v : V} {t : Tb} (a : TbNew h0 h v t) (hl : Small t) : TbIs h v t := by
  obtain ⟨a, b, c, rfl, _, _, _, _, g1, g2, g3⟩ := a
  have := hl.1
  have := hl.2.1
  have := hl.2.2
  exact ⟨_, _, _, rfl, SlAt.full (by simp) g1 (by simp [encE]) (by simp; omega), SlAt.full (by simp) g2 (by simp [encD]) (by simp; omega), SlAt.full (by simp) g3 (by simp [encD]) (by simp; omega)⟩
theorem own_ev {h : H} {v : V} {t : Tb} (hw : h.wf) (ht : TbIs h v t) (hl : Small t) (Q : V → H → Prop) (q : ∀ u h', h.Sub h' → TbNew h h' u t → Q u h') : Ev fnG fastA (.fn 14 [] []) [v] h Q := by
  obtain ⟨E, L, P, rfl, aE, aL, aP⟩ := ht
  obtain ⟨l1, l2, l3⟩ := hl
  refine Ev_body (fd := c14) rfl rfl rfl ?_
  have s2 : h.Sub ((h.add (.cells .rw [E, L, P])).add (.cells .rw [.nils, .nils, .nils])) := (by repeat (first | assumption | exact H.Sub.refl (by assumption) | refine H.Sub.add ?_ _ | refine H.Sub.set ?_ (by first | omega | (simp only [H.next_add, H.next_set, H.next_del] <;> omega)) (by first | omega | (simp only [H.next_add, H.next_set, H.next_del] <;> omega)) (by assumption) _))
  have s3 := s2.add (.cells .rw (t.eyes.map encE).flatten)
  have s4 := s3.add (.cells .rw (t.lights.map encD).flatten)
  have s5 := s4.add (.cells .rw (t.pieces.map encD).flatten)
  simp -implicitDefEqProofs (maxSteps := 999999) (disch := first | with_reducible rfl | omega | (simp only [nA, nS, nD] <;> omega) | fail) only [c14, go_sem, dupEye_ev s2.wf (aE.mono s2) (by omega), dupLight_ev s3.wf (aL.mono s3) (by omega), dupShade_ev s4.wf (aP.mono s4) (by omega), evQ_ld]
  refine q _ _ ((by repeat (first | assumption | exact H.Sub.refl (by assumption) | refine H.Sub.add ?_ _ | refine H.Sub.set ?_ (by first | omega | (simp only [H.next_add, H.next_set, H.next_del] <;> omega)) (by first | omega | (simp only [H.next_add, H.next_set, H.next_del] <;> omega)) (by assumption) _))) ⟨h.next + 1 + 1, h.next + 1 + 1 + 1, h.next + 1 + 1 + 1 + 1, rfl, ⟨by omega, by simp only [H.next_set, H.next_add]; omega⟩, ⟨by omega, by simp only [H.next_set, H.next_add]; omega⟩, ⟨by omega, by simp only [H.next_set, H.next_add]; omega⟩, by omega, ?_, ?_, ?_⟩
  all_goals simp -implicitDefEqProofs (maxSteps := 999999) (disch := first | with_reducible rfl | omega | (simp only [nA, nS, nD] <;> omega) | fail) only [go_sem]
def rowE (e : Ey) : List Int := [e.s.x, e.s.y, e.s.z, e.frm]
def rowD (s : Sd) : List Int := [s.x, s.y, s.z]
theorem rowE_inj {a b : List Ey} : a.map rowE = b.map rowE ↔ a = b := by
  refine ⟨fun h => ?_, fun h => by rw [h]⟩
  refine List.map_inj_right (f := rowE) (fun x y hxy => ?_) |>.1 h
  obtain ⟨⟨_, _, _⟩, _⟩ := x; obtain ⟨⟨_, _, _⟩, _⟩ := y; simp [rowE] at hxy; simp [hxy]
theorem rowD_inj {a b : List Sd} : a.map rowD = b.map rowD ↔ a = b := by
  refine ⟨fun h => ?_, fun h => by rw [h]⟩
  refine List.map_inj_right (f := rowD) (fun x y hxy => ?_) |>.1 h
  cases x; cases y; simp [rowD] at hxy; simp [hxy]
theorem eqEyes_ev {l r : List Ey} {h : H} {x y : V} (hx : SlAt h x 4 (l.map encE)) (hy : SlAt h y 4 (r.map encE)) (Q : V → H → Prop) : Ev fnG fastA (.fn 61 [] []) [x, y] h Q = Q (.bool (decide (l = r))) h := by
  rw [eqEye_ev (l := l.map rowE) (r := r.map rowE) (by rw [List.map_map]; exact hx) (by rw [List.map_map]; exact hy)]
  simp only [rowE_inj]
theorem eqLights_ev {l r : List Sd} {h : H} {x y : V} (hx : SlAt h x 3 (l.map encD)) (hy : SlAt h y 3 (r.map encD)) (Q : V → H → Prop) : Ev fnG fastA (.fn 62 [] []) [x, y] h Q = Q (.bool (decide (l = r))) h := by
  rw [eqLight_ev (l := l.map rowD) (r := r.map rowD) (by rw [List.map_map]; exact hx) (by rw [List.map_map]; exact hy)]
  simp only [rowD_inj]
theorem eqShades_ev {l r : List Sd} {h : H} {x y : V} (hx : SlAt h x 3 (l.map encD)) (hy : SlAt h y 3 (r.map encD)) (Q : V → H → Prop) : Ev fnG fastA (.fn 60 [] []) [x, y] h Q = Q (.bool (decide (l = r))) h := by
  rw [eqShade_ev (l := l.map rowD) (r := r.map rowD) (by rw [List.map_map]; exact hx) (by rw [List.map_map]; exact hy)]
  simp only [rowD_inj]
theorem same_ev {h : H} {v u : V} {m n : Tb} (hw : h.wf) (hm : TbIs h v m) (hn : TbIs h u n) (Q : V → H → Prop) (q : ∀ h', h.Sub h' → Q (.bool (decide (m = n))) h') : Ev fnG fastA (.fn 24 [] []) [v, u] h Q := by
  obtain ⟨me, ml, mp⟩ := m
  obtain ⟨ne, nl, np⟩ := n
  obtain ⟨E, L, P, rfl, aE, aL, aP⟩ := hm
  obtain ⟨E', L', P', rfl, bE, bL, bP⟩ := hn
  dsimp only at aE aL aP bE bL bP
  refine Ev_body (fd := c24) rfl rfl rfl ?_
  have s2 : h.Sub ((h.add (.cells .rw [E, L, P])).add (.cells .rw [E', L', P'])) := ((H.Sub.refl hw).add _).add _
  have q' := q _ s2
  simp only [Tb.mk.injEq] at q'
  have r1 := eqEyes_ev (aE.mono s2) (bE.mono s2)
  have r2 := eqLights_ev (aL.mono s2) (bL.mono s2)
  have r3 := eqShades_ev (aP.mono s2) (bP.mono s2)
  by_cases c1 : me = ne
  · by_cases c2 : ml = nl
    · simp -implicitDefEqProofs (maxSteps := 999999) (disch := first | with_reducible rfl | omega | (simp only [nA, nS, nD] <;> omega) | fail) only [c24, go_sem, r1, r2, r3, c1, c2]
      simpa [c1, c2] using q'
    · simp -implicitDefEqProofs (maxSteps := 999999) (disch := first | with_reducible rfl | omega | (simp only [nA, nS, nD] <;> omega) | fail) only [c24, go_sem, r1, r2, r3, c1, c2]
      simpa [c1, c2] using q'
  · simp -implicitDefEqProofs (maxSteps := 999999) (disch := first | with_reducible rfl | omega | (simp only [nA, nS, nD] <;> omega) | fail) only [c24, go_sem, r1, r2, r3, c1]
    simpa [c1] using q'
end Try
end Go.Ab
set_option linter.unusedSimpArgs false
set_option linter.unusedVariables false
namespace Go.Ab.Try
set_option maxHeartbeats 1000000 in
theorem theirs_ev {h : H} {v : V} {t : Tb} (hw : h.wf) (ht : TbIs h v t) (hl : Small t) (Q : V → H → Prop) (q : ∀ u h', h.Sub h' → TbIs h' u t → Q u h') : Ev fnG fastA (.fn 15 [] []) [v] h Q := by
  obtain ⟨E, L, P, rfl, aE, aL, aP⟩ := ht
  obtain ⟨m1, m2, m3⟩ := hl
  have hlE := aE.lenE
  have hlL := aL.lenE
  have hlP := aP.lenE
  refine Ev_body (fd := c15) rfl rfl rfl ?_
  have s3 : h.Sub (((h.add (.cells .rw [E, L, P])).add (.cells .rw [.nils, .nils, .nils])).add (.cells .rw [.nils, .nils, .nils])) := (by repeat (first | assumption | exact H.Sub.refl (by assumption) | refine H.Sub.add ?_ _ | refine H.Sub.set ?_ (by first | omega | (simp only [H.next_add, H.next_set, H.next_del] <;> omega)) (by first | omega | (simp only [H.next_add, H.next_set, H.next_del] <;> omega)) (by assumption) _))
  simp -implicitDefEqProofs (maxSteps := 999999) (disch := first | with_reducible rfl | omega | (simp only [nA, nS, nD] <;> omega) | fail) only [c15, go_sem, hlE]
  refine W_count t.eyes.length (fun i s => ∃ tm h' x, s = ⟨tm, h', []⟩ ∧ OwnSl h h' x 4 ((t.eyes.take i).map encE) ∧ h.next + 2 < h'.next ∧ (Opd.t 1).ev tm = .ptr h.next 0 ∧ (Opd.t 2).ev tm = .ptr (h.next + 1) 0 ∧ (Opd.t 3).ev tm = .ptr (h.next + 1 + 1) 0 ∧
      (Opd.t 11).ev tm = E ∧ (Opd.t 12).ev tm = .int .i64 (t.eyes.length : Int) ∧ (Opd.t 13).ev tm = .int .i64 (i : Int) ∧
      h'.get h.next = some (.cells .rw [E, L, P]) ∧ h'.get (h.next + 1) = some (.cells .rw [.nils, .nils, .nils]) ∧ h'.get (h.next + 1 + 1) = some (.cells .rw [x, .nils, .nils]))
    ?_ ?_ (i := 0) (Nat.zero_le _) ⟨_, _, .nils, rfl, OwnSl.nil s3 4, by simp only [H.next_add]; omega, (by simp [ev_c, ev_put] <;> rfl), (by simp [ev_c, ev_put] <;> rfl), (by simp [ev_c, ev_put] <;> rfl), (by simp [ev_c, ev_put] <;> rfl), (by simp [ev_c, ev_put] <;> rfl), (by simp [ev_c, ev_put] <;> rfl), by simp -implicitDefEqProofs (maxSteps := 999999) (disch := first | with_reducible rfl | omega | (simp only [nA, nS, nD] <;> omega) | fail) only [go_sem], by simp -implicitDefEqProofs (maxSteps := 999999) (disch := first | with_reducible rfl | omega | (simp only [nA, nS, nD] <;> omega) | fail) only [go_sem], by simp -implicitDefEqProofs (maxSteps := 999999) (disch := first | with_reducible rfl | omega | (simp only [nA, nS, nD] <;> omega) | fail) only [go_sem]⟩
  · rintro i s hi ⟨tm, h', x, rfl, ox, lt, t1, t2, t3, t11, t12, t13, g1, g2, g3⟩
    have hi' : (i : Int) < (t.eyes.length : Int) := by omega
    have hs := ox.1
    obtain ⟨b, o, c, cs, eb, hc, hq, hg, hn, hn0⟩ := (aE.mono hs).at hi
    obtain ⟨e, ee⟩ : ∃ e, t.eyes[i] = e := ⟨_, rfl⟩
    rw [ee] at hg
    have hx1 := OwnC.one ox.c
    simp only [encE] at hg
    simp -implicitDefEqProofs (maxSteps := 999999) (disch := first | with_reducible rfl | omega | (simp only [nA, nS, nD] <;> omega) | fail) only [go_sem, t1, t2, t3, t11, t12, t13, hi', hq (nat_cst i), hc, hg, cells_of g3]
    have sB : h'.Sub ((h'.add (.cells .rw [.int .i64 e.s.x, .int .i64 e.s.y, .int .i64 e.s.z, .int .i64 e.frm])).add (.cells .rw [.int .i64 e.s.x, .int .i64 e.s.y, .int .i64 e.s.z, .int .i64 e.frm])) := ((H.Sub.refl hs.wf).add _).add _
    have oB := ox.mono sB
    refine oB.app1 (by_ := 32) (r := encE e) hw rfl (by omega) (SlAt.new _ (by simp only [H.next_add]) rfl rfl (by simp [encE]) (by simp)) rfl (by simp; omega) (by simp; omega) fun h5 o5 k5 n5 => ?_
    have g5a := k5.2 _ _ (sB.get g1) (oB.ne (sB.get g1))
    have g5b := k5.2 _ _ (sB.get g2) (oB.ne (sB.get g2))
    have g5c := k5.2 _ _ (sB.get g3) (oB.ne (sB.get g3))
    simp only [H.next_add] at n5 o5
    simp -implicitDefEqProofs (maxSteps := 999999) (disch := first | with_reducible rfl | omega | (simp only [nA, nS, nD] <;> omega) | fail) only [go_sem, t1, t2, t3, t11, t12, t13, g5a, g5b, g5c, cells_of g5c, wr_succ]
    have o6 := o5.keep (Keeps.set h5 (h.next + 1 + 1) (.cells .rw [.sl (h'.next + 1 + 1) 0 (((t.eyes.take i).map encE).length + 1) (.slk 0 0), .nils, .nils])) (o5.1.set (by omega) (by omega) hw _) (fun b hb e => by
      obtain ⟨_, _, _, e'⟩ := hb; cases e'; omega)
    refine ⟨_, _, _, rfl, ?_, by rw [H.next_set]; omega, (by simp [ev_c, ev_put, t1] <;> rfl), (by simp [ev_c, ev_put, t2] <;> rfl), (by simp [ev_c, ev_put, t3] <;> rfl), (by simp [ev_c, ev_put, t11] <;> rfl), (by simp [ev_c, ev_put, t12] <;> rfl), (by simp [ev_c, ev_put] <;> rfl), by rw [get_set_other (by omega)]; exact g5a, by rw [get_set_other (by omega)]; exact g5b, get_set_same rfl⟩
    rw [List.take_succ_eq_append_getElem hi, List.map_append, ee]
    exact o6
  · rintro s ⟨tm, h', x, rfl, ox, lt, t1, t2, t3, t11, t12, t13, g1, g2, g3⟩
    rw [List.take_length] at ox
    have hs := ox.1
    have hx1 := OwnC.one ox.c
    simp -implicitDefEqProofs (maxSteps := 999999) (disch := first | with_reducible rfl | omega | (simp only [nA, nS, nD] <;> omega) | fail) only [go_sem, t1, t2, t3, t11, t12, t13, Int.lt_irrefl, cells_of g1, hlL]
    refine W_count t.lights.length (fun i s => ∃ tm h2 y, s = ⟨tm, h2, []⟩ ∧ OwnSl h h2 y 3 ((t.lights.take i).map encD) ∧ OwnSl h h2 x 4 (t.eyes.map encE) ∧ (∀ b, blkOf x b → ¬ blkOf y b) ∧ h.next + 2 < h2.next ∧ (Opd.t 1).ev tm = .ptr h.next 0 ∧ (Opd.t 2).ev tm = .ptr (h.next + 1) 0 ∧ (Opd.t 3).ev tm = .ptr (h.next + 1 + 1) 0 ∧
        (Opd.t 29).ev tm = L ∧ (Opd.t 30).ev tm = .int .i64 (t.lights.length : Int) ∧ (Opd.t 31).ev tm = .int .i64 (i : Int) ∧
        h2.get h.next = some (.cells .rw [E, L, P]) ∧ h2.get (h.next + 1) = some (.cells .rw [.nils, .nils, .nils]) ∧ h2.get (h.next + 1 + 1) = some (.cells .rw [x, y, .nils]))
      ?_ ?_ (i := 0) (Nat.zero_le _) ⟨_, _, .nils, rfl, OwnSl.nil hs 3, ox, fun b _ hb => (blkOf_nils hb).elim, lt, (by simp [ev_c, ev_put, t1] <;> rfl), (by simp [ev_c, ev_put, t2] <;> rfl), (by simp [ev_c, ev_put, t3] <;> rfl), (by simp [ev_c, ev_put] <;> rfl), (by simp [ev_c, ev_put] <;> rfl), (by simp [ev_c, ev_put] <;> rfl), g1, g2, g3⟩ <;> clear t1 t2 t3 t11 t12 t13 g1 g2 g3 tm
    · rintro i s hi ⟨tm, h2, y, rfl, oy, oxx, dis, lt2, t1, t2, t3, t29, t30, t31, g1, g2, g3⟩
      have hi' : (i : Int) < (t.lights.length : Int) := by omega
      have hs2 := oy.1
      obtain ⟨b, o, c, cs, eb, hc, hq, hg, hn, hn0⟩ := (aL.mono hs2).at hi
      obtain ⟨e, ee⟩ : ∃ e, t.lights[i] = e := ⟨_, rfl⟩
      rw [ee] at hg
      simp only [encD] at hg
      have hy1 := OwnC.one oy.c
      simp -implicitDefEqProofs (maxSteps := 999999) (disch := first | with_reducible rfl | omega | (simp only [nA, nS, nD] <;> omega) | fail) only [go_sem, t1, t2, t3, t29, t30, t31, hi', hq (nat_cst i), hc, hg, cells_of g3]
      have sB : h2.Sub ((h2.add (.cells .rw [.int .i64 e.x, .int .i64 e.y, .int .i64 e.z])).add (.cells .rw [.int .i64 e.x, .int .i64 e.y, .int .i64 e.z])) := ((H.Sub.refl hs2.wf).add _).add _
      have oB := oy.mono sB
      refine oB.app1 (by_ := 24) (r := encD e) hw rfl (by omega) (SlAt.new _ (by simp only [H.next_add]) rfl rfl (by simp [encD]) (by simp)) rfl (by simp; omega) (by simp; omega) fun h5 o5 k5 n5 => ?_
      have g5a := k5.2 _ _ (sB.get g1) (oB.ne (sB.get g1))
      have g5b := k5.2 _ _ (sB.get g2) (oB.ne (sB.get g2))
      have g5c := k5.2 _ _ (sB.get g3) (oB.ne (sB.get g3))
      have ox5 := (oxx.mono sB).keep k5 o5.1 dis
      simp only [H.next_add] at n5 o5
      simp -implicitDefEqProofs (maxSteps := 999999) (disch := first | with_reducible rfl | omega | (simp only [nA, nS, nD] <;> omega) | fail) only [go_sem, t1, t2, t3, t29, t30, t31, g5a, g5b, g5c, cells_of g5c, wr_succ]
      have hs6 := o5.1.set (b := h.next + 1 + 1) (by omega) (by omega) hw (.cells .rw [x, .sl (h2.next + 1 + 1) 0 (((t.lights.take i).map encD).length + 1) (.slk 0 0), .nils])
      have k6 := Keeps.set h5 (h.next + 1 + 1) (.cells .rw [x, .sl (h2.next + 1 + 1) 0 (((t.lights.take i).map encD).length + 1) (.slk 0 0), .nils])
      have o6 := o5.keep k6 hs6 (fun b hb e => by
        obtain ⟨_, _, _, e'⟩ := hb; cases e'; omega)
      have ox6 := ox5.keep k6 hs6 (fun b hb e => by rw [e] at hb; exact ox5.ne g5c hb)
      refine ⟨_, _, _, rfl, ?_, ox6, fun b hb hb2 => ?_, by rw [H.next_set]; omega, (by simp [ev_c, ev_put, t1] <;> rfl), (by simp [ev_c, ev_put, t2] <;> rfl), (by simp [ev_c, ev_put, t3] <;> rfl), (by simp [ev_c, ev_put, t29] <;> rfl), (by simp [ev_c, ev_put, t30] <;> rfl), (by simp [ev_c, ev_put] <;> rfl), by rw [get_set_other (by omega)]; exact g5a, by rw [get_set_other (by omega)]; exact g5b, get_set_same rfl⟩
      · rw [List.take_succ_eq_append_getElem hi, List.map_append, ee]
        exact o6
      · obtain ⟨_, _, _, e'⟩ := hb2; cases e'
        have := (oxx.blk hb).2.1; omega
    · rintro s ⟨tm, h2, y, rfl, oy, oxx, dis, lt2, t1, t2, t3, t29, t30, t31, g1, g2, g3⟩
      rw [List.take_length] at oy
      have hs2 := oy.1
      have hy1 := OwnC.one oy.c
      simp -implicitDefEqProofs (maxSteps := 999999) (disch := first | with_reducible rfl | omega | (simp only [nA, nS, nD] <;> omega) | fail) only [go_sem, t1, t2, t3, t29, t30, t31, Int.lt_irrefl, cells_of g1, hlP]
      refine W_count t.pieces.length (fun i s => ∃ tm h2 z, s = ⟨tm, h2, []⟩ ∧ OwnSl h h2 z 3 ((t.pieces.take i).map encD) ∧ OwnSl h h2 x 4 (t.eyes.map encE) ∧ OwnSl h h2 y 3 (t.lights.map encD) ∧ (∀ b, blkOf x b → ¬ blkOf z b) ∧ (∀ b, blkOf y b → ¬ blkOf z b) ∧ h.next + 2 < h2.next ∧ (Opd.t 1).ev tm = .ptr h.next 0 ∧ (Opd.t 2).ev tm = .ptr (h.next + 1) 0 ∧ (Opd.t 3).ev tm = .ptr (h.next + 1 + 1) 0 ∧
          (Opd.t 43).ev tm = P ∧ (Opd.t 44).ev tm = .int .i64 (t.pieces.length : Int) ∧ (Opd.t 45).ev tm = .int .i64 (i : Int) ∧
          h2.get (h.next + 1) = some (.cells .rw [.nils, .nils, .nils]) ∧ h2.get (h.next + 1 + 1) = some (.cells .rw [x, y, z]))
        ?_ ?_ (i := 0) (Nat.zero_le _) ⟨_, _, .nils, rfl, OwnSl.nil hs2 3, oxx, oy, fun b _ hb => (blkOf_nils hb).elim, fun b _ hb => (blkOf_nils hb).elim, lt2, (by simp [ev_c, ev_put, t1] <;> rfl), (by simp [ev_c, ev_put, t2] <;> rfl), (by simp [ev_c, ev_put, t3] <;> rfl), (by simp [ev_c, ev_put] <;> rfl), (by simp [ev_c, ev_put] <;> rfl), (by simp [ev_c, ev_put] <;> rfl), g2, g3⟩ <;> clear t1 t2 t3 t29 t30 t31 g1 g2 g3 tm
      · rintro i s hi ⟨tm, h3, z, rfl, oz, oxx, oyy, dis1, dis2, lt3, t1, t2, t3, t43, t44, t45, g2, g3⟩
        have hi' : (i : Int) < (t.pieces.length : Int) := by omega
        have hs2 := oz.1
        obtain ⟨b, o, c, cs, eb, hc, hq, hg, hn, hn0⟩ := (aP.mono hs2).at hi
        obtain ⟨e, ee⟩ : ∃ e, t.pieces[i] = e := ⟨_, rfl⟩
        rw [ee] at hg
        simp only [encD] at hg
        have hz1 := OwnC.one oz.c
        simp -implicitDefEqProofs (maxSteps := 999999) (disch := first | with_reducible rfl | omega | (simp only [nA, nS, nD] <;> omega) | fail) only [go_sem, t1, t2, t3, t43, t44, t45, hi', hq (nat_cst i), hc, hg, cells_of g3]
        have sB : h3.Sub ((h3.add (.cells .rw [.int .i64 e.x, .int .i64 e.y, .int .i64 e.z])).add (.cells .rw [.int .i64 e.x, .int .i64 e.y, .int .i64 e.z])) := ((H.Sub.refl hs2.wf).add _).add _
        have oB := oz.mono sB
        refine oB.app1 (by_ := 24) (r := encD e) hw rfl (by omega) (SlAt.new _ (by simp only [H.next_add]) rfl rfl (by simp [encD]) (by simp)) rfl (by simp; omega) (by simp; omega) fun h5 o5 k5 n5 => ?_
        have g5b := k5.2 _ _ (sB.get g2) (oB.ne (sB.get g2))
        have g5c := k5.2 _ _ (sB.get g3) (oB.ne (sB.get g3))
        have ox5 := (oxx.mono sB).keep k5 o5.1 dis1
        have oy5 := (oyy.mono sB).keep k5 o5.1 dis2
        simp only [H.next_add] at n5 o5
        simp -implicitDefEqProofs (maxSteps := 999999) (disch := first | with_reducible rfl | omega | (simp only [nA, nS, nD] <;> omega) | fail) only [go_sem, t1, t2, t3, t43, t44, t45, g5b, g5c, cells_of g5c, wr_succ]
        have hs6 := o5.1.set (b := h.next + 1 + 1) (by omega) (by omega) hw (.cells .rw [x, y, .sl (h3.next + 1 + 1) 0 (((t.pieces.take i).map encD).length + 1) (.slk 0 0)])
        have k6 := Keeps.set h5 (h.next + 1 + 1) (.cells .rw [x, y, .sl (h3.next + 1 + 1) 0 (((t.pieces.take i).map encD).length + 1) (.slk 0 0)])
        have o6 := o5.keep k6 hs6 (fun b hb e => by
          obtain ⟨_, _, _, e'⟩ := hb; cases e'; omega)
        have ox6 := ox5.keep k6 hs6 (fun b hb e => by rw [e] at hb; exact ox5.ne g5c hb)
        have oy6 := oy5.keep k6 hs6 (fun b hb e => by rw [e] at hb; exact oy5.ne g5c hb)
        refine ⟨_, _, _, rfl, ?_, ox6, oy6, fun b hb hb2 => ?_, fun b hb hb2 => ?_, by rw [H.next_set]; omega, (by simp [ev_c, ev_put, t1] <;> rfl), (by simp [ev_c, ev_put, t2] <;> rfl), (by simp [ev_c, ev_put, t3] <;> rfl), (by simp [ev_c, ev_put, t43] <;> rfl), (by simp [ev_c, ev_put, t44] <;> rfl), (by simp [ev_c, ev_put] <;> rfl), by rw [get_set_other (by omega)]; exact g5b, get_set_same rfl⟩
        · rw [List.take_succ_eq_append_getElem hi, List.map_append, ee]
          exact o6
        · obtain ⟨_, _, _, e'⟩ := hb2; cases e'
          have := (oxx.blk hb).2.1; omega
        · obtain ⟨_, _, _, e'⟩ := hb2; cases e'
          have := (oyy.blk hb).2.1; omega
      · rintro s ⟨tm, h3, z, rfl, oz, oxx, oyy, dis1, dis2, lt3, t1, t2, t3, t43, t44, t45, g2, g3⟩
        rw [List.take_length] at oz
        have hz1 := OwnC.one oz.c
        have s6 := oz.1.set (b := h.next + 1) (by omega) (by omega) hw (.cells .rw [x, y, z])
        have k6 := Keeps.set h3 (h.next + 1) (.cells .rw [x, y, z])
        have o6 := oz.keep k6 s6 (fun b hb e => by rw [e] at hb; exact oz.ne g2 hb)
        have oy6 := oyy.keep k6 s6 (fun b hb e => by rw [e] at hb; exact oyy.ne g2 hb)
        have ox6 := oxx.keep k6 s6 (fun b hb e => by rw [e] at hb; exact oxx.ne g2 hb)
        have c9 : (h3.set (h.next + 1) (.cells .rw [x, y, z])).cells (h.next + 1) = some [x, y, z] := cells_set_same rfl
        simp -implicitDefEqProofs (maxSteps := 999999) (disch := first | with_reducible rfl | omega | (simp only [nA, nS, nD] <;> omega) | fail) only [go_sem, t1, t2, t3, t43, t44, t45, Int.lt_irrefl, cells_of g3, g2, hx1, hy1, hz1, cells_one hx1, cells_one hy1, cells_one hz1, c9]
        exact q _ _ s6 ⟨x, y, z, rfl, ox6.sl (by simp; omega), oy6.sl (by simp; omega), o6.sl (by simp; omega)⟩
theorem off_ev (n lo hi : Int) (h : H) (Q : V → H → Prop) : Ev fnG fastA (.fn 80 [] []) [.int .i64 n, .int .i64 lo, .int .i64 hi] h Q = Q (.bool (!inB n lo hi)) h := by
  refine Ev.det (Ev_body (fd := c80) rfl rfl rfl ?_) Q
  by_cases h1 : n < lo
  · have : inB n lo hi = false := by simp [inB]; omega
    simp -implicitDefEqProofs (maxSteps := 999999) (disch := first | with_reducible rfl | omega | (simp only [nA, nS, nD] <;> omega) | fail) only [c80, go_sem, h1, this]
  · have : (!inB n lo hi) = decide (hi < n) := by rw [Bool.eq_iff_iff]; simp [inB]; omega
    simp -implicitDefEqProofs (maxSteps := 999999) (disch := first | with_reducible rfl | omega | (simp only [nA, nS, nD] <;> omega) | fail) only [c80, go_sem, h1, this]
theorem beyond_ev (s : Sd) (m : Int) (h : H) (Q : V → H → Prop) : Ev fnG fastA (.fn 81 [] []) [.agg (encD s), .int .i64 m] h Q = Q (.bool (!s.within m)) (h.add (.cells .rw (encD s))) := by
  refine Ev.det (Ev_body (fd := c81) rfl rfl rfl ?_) Q
  have z0 : ∀ b, q_iaa 3 1 (.ptr b 0) (.int .i64 0) = some (.ptr b 0) := fun b => rfl
  have z1 : ∀ b, q_iaa 3 1 (.ptr b 0) (.int .i64 1) = some (.ptr b 1) := fun b => rfl
  have z2 : ∀ b, q_iaa 3 1 (.ptr b 0) (.int .i64 2) = some (.ptr b 2) := fun b => rfl
  cases c1 : inB s.x 0 m
  · simp -implicitDefEqProofs (maxSteps := 999999) (disch := first | with_reducible rfl | omega | (simp only [nA, nS, nD] <;> omega) | fail) only [c81, go_sem, encD, z0, z1, z2, off_ev, c1, Bool.not_false, Sd.within, Bool.false_and]
  · cases c2 : inB s.y 0 m
    · simp -implicitDefEqProofs (maxSteps := 999999) (disch := first | with_reducible rfl | omega | (simp only [nA, nS, nD] <;> omega) | fail) only [c81, go_sem, encD, z0, z1, z2, off_ev, c1, c2, Bool.not_false, Bool.not_true, Sd.within, Bool.false_and, Bool.true_and]
    · simp -implicitDefEqProofs (maxSteps := 999999) (disch := first | with_reducible rfl | omega | (simp only [nA, nS, nD] <;> omega) | fail) only [c81, go_sem, encD, z0, z1, z2, off_ev, c1, c2, Bool.not_false, Bool.not_true, Sd.within, Bool.true_and, Bool.and_true]
theorem refPiece_ev {h : H} {v : V} {t : Tb} (hw : h.wf) (ht : TbIs h v t) (p : Int) (Q : V → H → Prop) (q : ∀ h', h.Sub h' → Q (.int .i64 (if 0 ≤ p ∧ p < t.pieces.length then 0 else 1)) h') : Ev fnG fastA (.fn 18 [] []) [v, .int .i64 p] h Q := by
  obtain ⟨E, L, P, rfl, aE, aL, aP⟩ := ht
  have hlP := aP.lenE
  have bP := aP.boundE
  refine Ev_body (fd := c18) rfl rfl rfl ?_
  have s1 : h.Sub (h.add (.cells .rw [E, L, P])) := (by repeat (first | assumption | exact H.Sub.refl (by assumption) | refine H.Sub.add ?_ _ | refine H.Sub.set ?_ (by first | omega | (simp only [H.next_add, H.next_set, H.next_del] <;> omega)) (by first | omega | (simp only [H.next_add, H.next_set, H.next_del] <;> omega)) (by assumption) _))
  have q' := q _ s1
  have e : inB p 0 ((t.pieces.length : Int) - 1) = decide (0 ≤ p ∧ p < t.pieces.length) := by
    unfold inB; rw [Bool.eq_iff_iff]; simp; omega
  by_cases c : 0 ≤ p ∧ p < t.pieces.length
  · rw [if_pos c] at q'
    rw [decide_eq_true c] at e
    simp -implicitDefEqProofs (maxSteps := 999999) (disch := first | with_reducible rfl | omega | (simp only [nA, nS, nD] <;> omega) | fail) only [c18, go_sem, hlP, wr_in, off_ev, e, Bool.not_true]
    exact q'
  · rw [if_neg c] at q'
    rw [decide_eq_false c] at e
    simp -implicitDefEqProofs (maxSteps := 999999) (disch := first | with_reducible rfl | omega | (simp only [nA, nS, nD] <;> omega) | fail) only [c18, go_sem, hlP, wr_in, off_ev, e, Bool.not_false]
    exact q'
end Go.Ab.Try
set_option linter.unusedSimpArgs false
set_option linter.unusedVariables false
namespace Go.Ab
end Go.Ab
namespace Go.Ab.Try
theorem all_step {α : Type} {l : List α} {p : α → Bool} {i : Nat} (hi : i < l.length) (h : (l.take i).all p = true) (h2 : p l[i] = true) : (l.take (i + 1)).all p = true := by
  rw [List.take_succ_eq_append_getElem hi, List.all_append, h]; simp [h2]
theorem all_false {α : Type} {l : List α} {p : α → Bool} {i : Nat} (hi : i < l.length) (h2 : p l[i] = false) : l.all p = false := by
  rw [Bool.eq_false_iff]; intro h
  rw [List.all_eq_true] at h
  rw [h _ (List.getElem_mem hi)] at h2; cases h2
set_option maxHeartbeats 1000000 in
theorem refCheck_ev {h : H} {v : V} {t : Tb} (hw : h.wf) (ht : TbIs h v t) (Q : V → H → Prop) (q : ∀ h', h.Sub h' → Q (.int .i64 (check t)) h') : Ev fnG fastA (.fn 16 [] []) [v] h Q := by
  obtain ⟨E, L, P, rfl, aE, aL, aP⟩ := ht
  have hlE := aE.lenE
  have hlL := aL.lenE
  have hlP := aP.lenE
  have bE := aE.boundE
  have bL := aL.boundE
  have bP := aP.boundE
  refine Ev_body (fd := c16) rfl rfl rfl ?_
  have s1 : h.Sub (h.add (.cells .rw [E, L, P])) := (by repeat (first | assumption | exact H.Sub.refl (by assumption) | refine H.Sub.add ?_ _ | refine H.Sub.set ?_ (by first | omega | (simp only [H.next_add, H.next_set, H.next_del] <;> omega)) (by first | omega | (simp only [H.next_add, H.next_set, H.next_del] <;> omega)) (by assumption) _))
  have g1 : (h.add (.cells .rw [E, L, P])).cells h.next = some [E, L, P] := cells_add_new rfl
  have hb := fun s m hh => beyond_ev s m hh
  simp only [encD] at hb
  by_cases c1 : inB t.eyes.length 1 6 = false ∨ inB t.lights.length 1 4 = false ∨ 9 < t.pieces.length
  · have hc : check t = 2 := by unfold check; rw [if_pos c1]
    rw [hc] at q
    cases d1 : inB t.eyes.length 1 6
    · simp -implicitDefEqProofs (maxSteps := 999999) (disch := first | with_reducible rfl | omega | (simp only [nA, nS, nD] <;> omega) | fail) only [c16, go_sem, g1, hlE, hlL, hlP, off_ev, d1, Bool.not_false]
      exact q _ s1
    cases d2 : inB t.lights.length 1 4
    · simp -implicitDefEqProofs (maxSteps := 999999) (disch := first | with_reducible rfl | omega | (simp only [nA, nS, nD] <;> omega) | fail) only [c16, go_sem, g1, hlE, hlL, hlP, off_ev, d1, d2, Bool.not_false, Bool.not_true]
      exact q _ s1
    rw [d1, d2] at c1
    have c3 : (9 : Int) < (t.pieces.length : Int) := by simp at c1; omega
    simp -implicitDefEqProofs (maxSteps := 999999) (disch := first | with_reducible rfl | omega | (simp only [nA, nS, nD] <;> omega) | fail) only [c16, go_sem, g1, hlE, hlL, hlP, off_ev, d1, d2, Bool.not_false, Bool.not_true, c3]
    exact q _ s1
  have d := c1
  simp only [not_or, Bool.not_eq_false] at d
  obtain ⟨d1, d2, d3⟩ := d
  have c3 : ¬ (9 : Int) < (t.pieces.length : Int) := by omega
  simp -implicitDefEqProofs (maxSteps := 999999) (disch := first | with_reducible rfl | omega | (simp only [nA, nS, nD] <;> omega) | fail) only [c16, go_sem, g1, hlE, hlL, hlP, off_ev, d1, d2, Bool.not_false, Bool.not_true, c3]
  generalize h.add (.cells .rw [E, L, P]) = h1 at s1 g1 ⊢
  refine W_count t.eyes.length (fun i s => ∃ tm h', s = ⟨tm, h', []⟩ ∧ h1.Sub h' ∧ (t.eyes.take i).all Ey.ok = true ∧ (Opd.t 1).ev tm = .ptr h.next 0 ∧ (Opd.t 3).ev tm = .int .i64 (i : Int))
    ?_ ?_ (i := 0) (Nat.zero_le _) ⟨_, _, rfl, H.Sub.refl s1.wf, rfl, (by simp [ev_c, ev_put] <;> rfl), (by simp [ev_c, ev_put] <;> rfl)⟩
  · rintro i s hi ⟨tm, h', rfl, hs, hall, t1, t3⟩
    have hi' : (i : Int) < (t.eyes.length : Int) := by omega
    have sA := s1.trans hs
    obtain ⟨b, o, c, cs, eb, hc, hq, hg, hn, hn0⟩ := (aE.mono sA).at hi
    obtain ⟨e, ee⟩ : ∃ e, t.eyes[i] = e := ⟨_, rfl⟩
    rw [ee] at hg
    have hg3 : getN (o + i * 4) 3 cs = some [.int .i64 e.s.x, .int .i64 e.s.y, .int .i64 e.s.z] := getN_less hg (k := 3) (by omega)
    have hfr : nth (o + i * 4 + 3) cs = some (.int .i64 e.frm) := by rw [hn 3 (by omega), ee]; rfl
    have sB := (H.Sub.refl hs.wf).add (.cells .rw [.int .i64 e.s.x, .int .i64 e.s.y, .int .i64 e.s.z])
    have r1 := hs.cells g1
    have r2 := sB.cells r1
    have hc2 := sB.cells hc
    cases e1 : e.s.within 4
    · have hbad : t.eyes.all Ey.ok = false := all_false hi (by rw [ee]; simp [Ey.ok, e1])
      have hc3 : check t = 3 := by unfold check; rw [if_neg c1, if_pos hbad]
      rw [hc3] at q
      simp -implicitDefEqProofs (maxSteps := 999999) (disch := first | with_reducible rfl | omega | (simp only [nA, nS, nD] <;> omega) | fail) only [go_sem, t1, t3, hi', r1, r2, hlE, hq (nat_cst i), hc, hg3, hb, e1, Bool.not_false]
      exact q _ (sA.trans sB)
    · cases e2 : inB e.frm 1 400
      · have hbad : t.eyes.all Ey.ok = false := all_false hi (by rw [ee]; simp [Ey.ok, e1, e2])
        have hc3 : check t = 3 := by unfold check; rw [if_neg c1, if_pos hbad]
        rw [hc3] at q
        simp -implicitDefEqProofs (maxSteps := 999999) (disch := first | with_reducible rfl | omega | (simp only [nA, nS, nD] <;> omega) | fail) only [go_sem, t1, t3, hi', r1, r2, hlE, hq (nat_cst i), hc, hc2, hg3, hb, e1, hfr, off_ev, e2, Bool.not_false, Bool.not_true]
        exact q _ (sA.trans sB)
      · simp -implicitDefEqProofs (maxSteps := 999999) (disch := first | with_reducible rfl | omega | (simp only [nA, nS, nD] <;> omega) | fail) only [go_sem, t1, t3, hi', r1, r2, hlE, hq (nat_cst i), hc, hc2, hg3, hb, e1, hfr, off_ev, e2, Bool.not_false, Bool.not_true, wr_succ]
        exact ⟨_, _, rfl, hs.trans sB, all_step hi hall (by rw [ee]; simp [Ey.ok, e1, e2]), (by simp [ev_c, ev_put, t1] <;> rfl), (by simp [ev_c, ev_put] <;> rfl)⟩
  · rintro s ⟨tm, h', rfl, hs, hall, t1, t3⟩
    rw [List.take_length] at hall
    have c4 : ¬ t.eyes.all Ey.ok = false := by rw [hall]; simp
    have r1 := hs.cells g1
    simp -implicitDefEqProofs (maxSteps := 999999) (disch := first | with_reducible rfl | omega | (simp only [nA, nS, nD] <;> omega) | fail) only [go_sem, t1, t3, r1, hlE, Int.lt_irrefl]
    refine W_count t.lights.length (fun i s => ∃ tm h', s = ⟨tm, h', []⟩ ∧ h1.Sub h' ∧ (t.lights.take i).all (fun s => s.within 3) = true ∧ (Opd.t 1).ev tm = .ptr h.next 0 ∧ (Opd.t 4).ev tm = .int .i64 (i : Int))
      ?_ ?_ (i := 0) (Nat.zero_le _) ⟨_, _, rfl, hs, rfl, (by simp [ev_c, ev_put, t1] <;> rfl), (by simp [ev_c, ev_put] <;> rfl)⟩ <;> clear t1 t3 r1 hs tm
    · rintro i s hi ⟨tm, h', rfl, hs, hall, t1, t4⟩
      have hi' : (i : Int) < (t.lights.length : Int) := by omega
      have sA := s1.trans hs
      obtain ⟨b, o, c, cs, eb, hc, hq, hg, hn, hn0⟩ := (aL.mono sA).at hi
      obtain ⟨e, ee⟩ : ∃ e, t.lights[i] = e := ⟨_, rfl⟩
      rw [ee] at hg
      simp only [encD] at hg
      have sB := (H.Sub.refl hs.wf).add (.cells .rw [.int .i64 e.x, .int .i64 e.y, .int .i64 e.z])
      have r1 := hs.cells g1
      cases e1 : e.within 3
      · have hbad : (t.lights.all fun s => s.within 3) = false := all_false hi (by rw [ee]; exact e1)
        have hc3 : check t = 3 := by unfold check; rw [if_neg c1, if_neg c4, if_pos (.inl hbad)]
        rw [hc3] at q
        simp -implicitDefEqProofs (maxSteps := 999999) (disch := first | with_reducible rfl | omega | (simp only [nA, nS, nD] <;> omega) | fail) only [go_sem, t1, t4, hi', r1, hlL, hq (nat_cst i), hc, hg, hb, e1, Bool.not_false]
        exact q _ (sA.trans sB)
      · simp -implicitDefEqProofs (maxSteps := 999999) (disch := first | with_reducible rfl | omega | (simp only [nA, nS, nD] <;> omega) | fail) only [go_sem, t1, t4, hi', r1, hlL, hq (nat_cst i), hc, hg, hb, e1, Bool.not_true, wr_succ]
        exact ⟨_, _, rfl, hs.trans sB, all_step hi hall (by rw [ee]; exact e1), (by simp [ev_c, ev_put, t1] <;> rfl), (by simp [ev_c, ev_put] <;> rfl)⟩
    · rintro s ⟨tm, h', rfl, hs, hall2, t1, t4⟩
      rw [List.take_length] at hall2
      have r1 := hs.cells g1
      simp -implicitDefEqProofs (maxSteps := 999999) (disch := first | with_reducible rfl | omega | (simp only [nA, nS, nD] <;> omega) | fail) only [go_sem, t1, t4, r1, hlL, Int.lt_irrefl]
      refine W_count t.pieces.length (fun i s => ∃ tm h', s = ⟨tm, h', []⟩ ∧ h1.Sub h' ∧ (t.pieces.take i).all (fun s => s.within 20) = true ∧ (Opd.t 1).ev tm = .ptr h.next 0 ∧ (Opd.t 5).ev tm = .int .i64 (i : Int))
        ?_ ?_ (i := 0) (Nat.zero_le _) ⟨_, _, rfl, hs, rfl, (by simp [ev_c, ev_put, t1] <;> rfl), (by simp [ev_c, ev_put] <;> rfl)⟩ <;> clear t1 t4 r1 hs tm
      · rintro i s hi ⟨tm, h', rfl, hs, hall, t1, t5⟩
        have hi' : (i : Int) < (t.pieces.length : Int) := by omega
        have sA := s1.trans hs
        obtain ⟨b, o, c, cs, eb, hc, hq, hg, hn, hn0⟩ := (aP.mono sA).at hi
        obtain ⟨e, ee⟩ : ∃ e, t.pieces[i] = e := ⟨_, rfl⟩
        rw [ee] at hg
        simp only [encD] at hg
        have sB := (H.Sub.refl hs.wf).add (.cells .rw [.int .i64 e.x, .int .i64 e.y, .int .i64 e.z])
        have r1 := hs.cells g1
        cases e1 : e.within 20
        · have hbad : (t.pieces.all fun s => s.within 20) = false := all_false hi (by rw [ee]; exact e1)
          have hc3 : check t = 3 := by unfold check; rw [if_neg c1, if_neg c4, if_pos (.inr hbad)]
          rw [hc3] at q
          simp -implicitDefEqProofs (maxSteps := 999999) (disch := first | with_reducible rfl | omega | (simp only [nA, nS, nD] <;> omega) | fail) only [go_sem, t1, t5, hi', r1, hlP, hq (nat_cst i), hc, hg, hb, e1, Bool.not_false]
          exact q _ (sA.trans sB)
        · simp -implicitDefEqProofs (maxSteps := 999999) (disch := first | with_reducible rfl | omega | (simp only [nA, nS, nD] <;> omega) | fail) only [go_sem, t1, t5, hi', r1, hlP, hq (nat_cst i), hc, hg, hb, e1, Bool.not_true, wr_succ]
          exact ⟨_, _, rfl, hs.trans sB, all_step hi hall (by rw [ee]; exact e1), (by simp [ev_c, ev_put, t1] <;> rfl), (by simp [ev_c, ev_put] <;> rfl)⟩
      · rintro s ⟨tm, h', rfl, hs, hall3, t1, t5⟩
        rw [List.take_length] at hall3
        have hc0 : check t = 0 := by unfold check; rw [if_neg c1, if_neg c4, if_neg (by simp [hall2, hall3])]
        rw [hc0] at q
        simp -implicitDefEqProofs (maxSteps := 999999) (disch := first | with_reducible rfl | omega | (simp only [nA, nS, nD] <;> omega) | fail) only [go_sem, t1, t5, hs.cells g1, hlP, Int.lt_irrefl]
        exact q _ (s1.trans hs)
theorem dif_abs (a b : Int) : (if a - b < 0 then 0 - (a - b) else a - b) = dif a b := by unfold dif; split <;> omega
set_option maxHeartbeats 1000000 in
theorem refSees_ev {h : H} {v : V} {t : Tb} (hw : h.wf) (ht : TbIs h v t) (g : Good t) {i k : Nat} (hi : i < t.eyes.length) (hk : k < t.lights.length) {a b : Sd} (ha : InS a 20) (hb : InS b 20) (Q : V → H → Prop)
    (q : ∀ h', h.Sub h' → Q (.int .i64 (seesN t.eyes[i].s t.lights[k] a b)) h') : Ev fnG fastA (.fn 58 [] []) [v, .agg [.int .i64 (i : Int), .int .i64 (k : Int)], .agg (encD a), .agg (encD b)] h Q := by
  obtain ⟨E, L, P, rfl, aE, aL, aP⟩ := ht
  have ge := (g.eye _ (List.getElem_mem hi)).1
  have gl := g.light _ (List.getElem_mem hk)
  obtain ⟨bE, oE, cE, csE, eE, hcE, hqE, hgE, _, _⟩ := aE.at hi
  obtain ⟨bL, oL, cL, csL, eL, hcL, hqL, hgL, _, _⟩ := aL.at hk
  obtain ⟨e, ee⟩ : ∃ e, t.eyes[i] = e := ⟨_, rfl⟩
  obtain ⟨l, el⟩ : ∃ l, t.lights[k] = l := ⟨_, rfl⟩
  rw [ee, el] at q
  rw [ee] at ge hgE
  rw [el] at gl hgL
  have hgE3 : getN (oE + i * 4) 3 csE = some [.int .i64 e.s.x, .int .i64 e.s.y, .int .i64 e.s.z] := getN_less hgE (k := 3) (by omega)
  simp only [encD] at hgL
  refine Ev_body (fd := c58) rfl rfl rfl ?_
  have hbE : bE < h.next := by obtain ⟨_, h1⟩ := H.cells_eq hcE; exact hw _ _ h1
  have hbL : bL < h.next := by obtain ⟨_, h1⟩ := H.cells_eq hcL; exact hw _ _ h1
  simp -implicitDefEqProofs (maxSteps := 999999) (disch := first | with_reducible rfl | omega | (simp only [nA, nS, nD] <;> omega) | fail) only [c58, go_sem, encD, evQ_ld, hqE (nat_cst i), hqL (nat_cst k), hcE, hcL, hgE3, hgL]
  refine W_count 3 (fun j s => ∃ tm h', s = ⟨tm, h', []⟩ ∧ h.Sub h' ∧ h'.cells (h.next + 1 + 1) = some [.int .i64 a.x, .int .i64 a.y, .int .i64 a.z] ∧ h'.cells (h.next + 1 + 1 + 1) = some [.int .i64 b.x, .int .i64 b.y, .int .i64 b.z] ∧
      h'.cells (h.next + 1 + 1 + 1 + 1) = some [.int .i64 e.s.x, .int .i64 e.s.y, .int .i64 e.s.z] ∧ h'.cells (h.next + 1 + 1 + 1 + 1 + 1) = some [.int .i64 l.x, .int .i64 l.y, .int .i64 l.z] ∧
      (Opd.t 6).ev tm = .ptr (h.next + 1 + 1) 0 ∧ (Opd.t 7).ev tm = .ptr (h.next + 1 + 1 + 1) 0 ∧ (Opd.t 9).ev tm = .ptr (h.next + 1 + 1 + 1 + 1) 0 ∧ (Opd.t 10).ev tm = .ptr (h.next + 1 + 1 + 1 + 1 + 1) 0 ∧ (Opd.t 11).ev tm = .int .i64 (part e.s l a b j) ∧ (Opd.t 12).ev tm = .int .i64 (j : Int))
    ?_ ?_ (i := 0) (Nat.zero_le _) ⟨_, _, rfl, (by repeat (first | assumption | exact H.Sub.refl (by assumption) | refine H.Sub.add ?_ _ | refine H.Sub.set ?_ (by first | omega | (simp only [H.next_add, H.next_set, H.next_del] <;> omega)) (by first | omega | (simp only [H.next_add, H.next_set, H.next_del] <;> omega)) (by assumption) _)), by simp -implicitDefEqProofs (maxSteps := 999999) (disch := first | with_reducible rfl | omega | (simp only [nA, nS, nD] <;> omega) | fail) only [go_sem], by simp -implicitDefEqProofs (maxSteps := 999999) (disch := first | with_reducible rfl | omega | (simp only [nA, nS, nD] <;> omega) | fail) only [go_sem], by simp -implicitDefEqProofs (maxSteps := 999999) (disch := first | with_reducible rfl | omega | (simp only [nA, nS, nD] <;> omega) | fail) only [go_sem], by simp -implicitDefEqProofs (maxSteps := 999999) (disch := first | with_reducible rfl | omega | (simp only [nA, nS, nD] <;> omega) | fail) only [go_sem], (by simp [ev_c, ev_put] <;> rfl), (by simp [ev_c, ev_put] <;> rfl), (by simp [ev_c, ev_put] <;> rfl), (by simp [ev_c, ev_put] <;> rfl), (by simp [ev_c, ev_put, part] <;> rfl), (by simp [ev_c, ev_put] <;> rfl)⟩
  · rintro j s hj ⟨tm, h', rfl, hs, r1, r2, r3, r4, t6, t7, t9, t10, t11, t12⟩
    have hj' : (j : Int) < 3 := by omega
    have na := sd_nth a hj
    have nb := sd_nth b hj
    have ne := sd_nth e.s hj
    have nl := sd_nth l hj
    simp only [encD] at na nb ne nl
    have b1 := sd_bd ha hj
    have b2 := sd_bd hb hj
    have b3 := term_bd ge gl ha hb hj
    have b4 := part_bd ge gl ha hb j (by omega)
    have b5 := b3.2
    unfold term at b5
    have st : part e.s l a b j + dif (a.at j) (b.at j) * e.s.at j * l.at j = part e.s l a b (j + 1) := rfl
    have hda := dif_abs (a.at j) (b.at j)
    by_cases hc : a.at j - b.at j < 0
    · rw [if_pos hc] at hda
      simp -implicitDefEqProofs (maxSteps := 999999) (disch := first | with_reducible rfl | omega | (simp only [nA, nS, nD] <;> omega) | fail) only [go_sem, t6, t7, t9, t10, t11, t12, hj', q_iaa_ptr (nat_cst j) hj, Nat.mul_one, r1, r2, r3, r4, na, nb, ne, nl, wr_in, evQ_ld, hc, hda, st, wr_succ]
      exact ⟨_, _, rfl, hs, r1, r2, r3, r4, (by simp [ev_c, ev_put, t6] <;> rfl), (by simp [ev_c, ev_put, t7] <;> rfl), (by simp [ev_c, ev_put, t9] <;> rfl), (by simp [ev_c, ev_put, t10] <;> rfl), (by simp [ev_c, ev_put] <;> rfl), (by simp [ev_c, ev_put] <;> rfl)⟩
    · rw [if_neg hc] at hda
      have hdn : ¬ dif (a.at j) (b.at j) < 0 := by omega
      simp -implicitDefEqProofs (maxSteps := 999999) (disch := first | with_reducible rfl | omega | (simp only [nA, nS, nD] <;> omega) | fail) only [go_sem, t6, t7, t9, t10, t11, t12, hj', q_iaa_ptr (nat_cst j) hj, Nat.mul_one, r1, r2, r3, r4, na, nb, ne, nl, wr_in, evQ_ld, hdn, hda, st, wr_succ]
      exact ⟨_, _, rfl, hs, r1, r2, r3, r4, (by simp [ev_c, ev_put, t6] <;> rfl), (by simp [ev_c, ev_put, t7] <;> rfl), (by simp [ev_c, ev_put, t9] <;> rfl), (by simp [ev_c, ev_put, t10] <;> rfl), (by simp [ev_c, ev_put] <;> rfl), (by simp [ev_c, ev_put] <;> rfl)⟩
  · rintro s ⟨tm, h', rfl, hs, r1, r2, r3, r4, t6, t7, t9, t10, t11, t12⟩
    have hnl : ¬ ((3 : Nat) : Int) < 3 := by omega
    simp -implicitDefEqProofs (maxSteps := 999999) (disch := first | with_reducible rfl | omega | (simp only [nA, nS, nD] <;> omega) | fail) only [go_sem, t6, t7, t9, t10, t11, t12, hnl]
    exact q _ hs
def tellsE (t : Tb) (i : Nat) (a b : Sd) : Bool := (List.range t.lights.length).any fun k => tellsAt t a b i k
theorem tellsAt_eq {t : Tb} {a b : Sd} {i k : Nat} (hi : i < t.eyes.length) (hk : k < t.lights.length) : tellsAt t a b i k = decide (t.eyes[i].frm ≤ seesN t.eyes[i].s t.lights[k] a b) := by
  unfold tellsAt; rw [List.getElem?_eq_getElem hi, List.getElem?_eq_getElem hk]
theorem any_range_step {p : Nat → Bool} (n : Nat) : (List.range (n + 1)).any p = ((List.range n).any p || p n) := by
  rw [List.range_succ, List.any_append]; simp
theorem any_range_hit {p : Nat → Bool} {n k : Nat} (h : k < n) (hp : p k = true) : (List.range n).any p = true := List.any_eq_true.2 ⟨k, List.mem_range.2 h, hp⟩
set_option maxHeartbeats 1000000 in
theorem refTells_ev {h : H} {v : V} {t : Tb} (hw : h.wf) (ht : TbIs h v t) (g : Good t) {i : Nat} (hi : i < t.eyes.length) {a b : Sd} (ha : InS a 20) (hb : InS b 20) (Q : V → H → Prop)
    (q : ∀ h', h.Sub h' → Q (.bool (tellsE t i a b)) h') : Ev fnG fastA (.fn 101 [] []) [v, .int .i64 (i : Int), .agg (encD a), .agg (encD b)] h Q := by
  have ht0 := ht
  obtain ⟨E, L, P, rfl, aE, aL, aP⟩ := ht
  have hlL := aL.lenE
  have bL := aL.boundE
  refine Ev_body (fd := c101) rfl rfl rfl ?_
  have s3 : h.Sub (((h.add (.cells .rw [E, L, P])).add (.cells .rw [.int .i64 a.x, .int .i64 a.y, .int .i64 a.z])).add (.cells .rw [.int .i64 b.x, .int .i64 b.y, .int .i64 b.z])) := (by repeat (first | assumption | exact H.Sub.refl (by assumption) | refine H.Sub.add ?_ _ | refine H.Sub.set ?_ (by first | omega | (simp only [H.next_add, H.next_set, H.next_del] <;> omega)) (by first | omega | (simp only [H.next_add, H.next_set, H.next_del] <;> omega)) (by assumption) _))
  simp -implicitDefEqProofs (maxSteps := 999999) (disch := first | with_reducible rfl | omega | (simp only [nA, nS, nD] <;> omega) | fail) only [c101, go_sem, encD]
  refine W_count t.lights.length (fun k s => ∃ tm h', s = ⟨tm, h', []⟩ ∧ h.Sub h' ∧ h'.cells h.next = some [E, L, P] ∧ h'.cells (h.next + 1) = some [.int .i64 a.x, .int .i64 a.y, .int .i64 a.z] ∧ h'.cells (h.next + 1 + 1) = some [.int .i64 b.x, .int .i64 b.y, .int .i64 b.z] ∧ (List.range k).any (fun k => tellsAt t a b i k) = false ∧
      (Opd.t 1).ev tm = .int .i64 (i : Int) ∧ (Opd.t 4).ev tm = .ptr h.next 0 ∧ (Opd.t 6).ev tm = .ptr (h.next + 1) 0 ∧ (Opd.t 7).ev tm = .ptr (h.next + 1 + 1) 0 ∧ (Opd.t 9).ev tm = .int .i64 (k : Int))
    ?_ ?_ (i := 0) (Nat.zero_le _) ⟨_, _, rfl, s3, by simp -implicitDefEqProofs (maxSteps := 999999) (disch := first | with_reducible rfl | omega | (simp only [nA, nS, nD] <;> omega) | fail) only [go_sem], by simp -implicitDefEqProofs (maxSteps := 999999) (disch := first | with_reducible rfl | omega | (simp only [nA, nS, nD] <;> omega) | fail) only [go_sem], by simp -implicitDefEqProofs (maxSteps := 999999) (disch := first | with_reducible rfl | omega | (simp only [nA, nS, nD] <;> omega) | fail) only [go_sem], rfl, (by simp [ev_c, ev_put] <;> rfl), (by simp [ev_c, ev_put] <;> rfl), (by simp [ev_c, ev_put] <;> rfl), (by simp [ev_c, ev_put] <;> rfl), (by simp [ev_c, ev_put] <;> rfl)⟩
  · rintro k s hk ⟨tm, h', rfl, hs, r1, r2, r3, hno, t1, t4, t6, t7, t9⟩
    have hk' : (k : Int) < (t.lights.length : Int) := by omega
    have hsee := refSees_ev hs.wf (ht0.mono hs) g hi hk ha hb
    simp only [encD] at hsee
    have hst := any_range_step (p := fun k => tellsAt t a b i k) k
    rw [hno, Bool.false_or] at hst
    have hte := tellsAt_eq (t := t) (a := a) (b := b) hi hk
    simp -implicitDefEqProofs (maxSteps := 999999) (disch := first | with_reducible rfl | omega | (simp only [nA, nS, nD] <;> omega) | fail) only [go_sem, t1, t4, t6, t7, t9, r1, r2, r3, hlL, hk', evQ_ld]
    refine hsee _ fun h2 s2 => ?_
    have sA := hs.trans s2
    obtain ⟨bE, oE, cE, csE, eE, hcE, hqE, _, hnE, _⟩ := (aE.mono sA).at hi
    have hfr : nth (oE + i * 4 + 3) csE = some (.int .i64 t.eyes[i].frm) := by rw [hnE 3 (by omega)]; rfl
    have hcE1 : h'.cells bE = some csE := by
      obtain ⟨bE', oE', cE', csE', eE', hcE', _⟩ := aE.at hi
      rw [eE] at eE'; injection eE' with x1 x2; subst x1
      have e1 := sA.cells hcE'
      rw [hcE] at e1; cases e1
      exact hs.cells hcE'
    simp -implicitDefEqProofs (maxSteps := 999999) (disch := first | with_reducible rfl | omega | (simp only [nA, nS, nD] <;> omega) | fail) only [go_sem, t1, t4, t6, t7, t9, r1, r2, r3, s2.cells r1, s2.cells r2, s2.cells r3, hqE (nat_cst i), hcE, hcE1, hfr, evQ_ld]
    by_cases hc : t.eyes[i].frm ≤ seesN t.eyes[i].s t.lights[k] a b
    · rw [decide_eq_true hc] at hte
      have : tellsE t i a b = true := any_range_hit hk hte
      rw [this] at q
      simp -implicitDefEqProofs (maxSteps := 999999) (disch := first | with_reducible rfl | omega | (simp only [nA, nS, nD] <;> omega) | fail) only [go_sem, hc]
      exact q _ sA
    · rw [decide_eq_false hc] at hte
      simp -implicitDefEqProofs (maxSteps := 999999) (disch := first | with_reducible rfl | omega | (simp only [nA, nS, nD] <;> omega) | fail) only [go_sem, t1, t4, t6, t7, t9, hc, wr_succ]
      exact ⟨_, _, rfl, sA, s2.cells r1, s2.cells r2, s2.cells r3, by first | (rw [hst]; exact hte) | (rw [List.any_append, hno, Bool.false_or]; simpa using hte), (by simp [ev_c, ev_put, t1] <;> rfl), (by simp [ev_c, ev_put, t4] <;> rfl), (by simp [ev_c, ev_put, t6] <;> rfl), (by simp [ev_c, ev_put, t7] <;> rfl), (by simp [ev_c, ev_put] <;> rfl)⟩
  · rintro s ⟨tm, h', rfl, hs, r1, r2, r3, hno, t1, t4, t6, t7, t9⟩
    simp -implicitDefEqProofs (maxSteps := 999999) (disch := first | with_reducible rfl | omega | (simp only [nA, nS, nD] <;> omega) | fail) only [go_sem, t1, t4, t6, t7, t9, r1, hlL, Int.lt_irrefl]
    have : tellsE t i a b = false := hno
    rw [this] at q
    exact q _ hs
theorem seesN_self (e l a : Sd) : seesN e l a a = 0 := by
  have : ∀ i, part e l a a i = 0 := fun i => by
    induction i with
    | zero => rfl
    | succ i ih => simp only [part, ih, term, dif]; simp
  exact this 3
theorem apartK_nil (t : Tb) (a b : Sd) : ∀ n, apartK t a b n = [] ↔ ∀ m, m < n → tellsAt t a b (m / t.lights.length) (m % t.lights.length) = false
  | 0 => by simp [apartK]
  | n + 1 => by
    have ih := apartK_nil t a b n
    simp only [apartK, List.append_eq_nil_iff, ih]
    constructor
    · rintro ⟨h1, h2⟩ m hm
      by_cases e : m = n
      · subst e
        cases hc : tellsAt t a b (m / t.lights.length) (m % t.lights.length)
        · rfl
        · rw [hc] at h2; simp at h2
      · exact h1 m (by omega)
    · intro hh
      exact ⟨fun m hm => hh m (by omega), by rw [hh n (by omega)]; rfl⟩
theorem tells_self {t : Tb} (g : Good t) (a : Sd) (i k : Nat) : tellsAt t a a i k = false := by
  unfold tellsAt
  split
  · rename_i e l he hl
    have := (g.eye e (List.mem_of_getElem? he)).2.1
    rw [seesN_self]; simp; omega
  · rfl
theorem apartL_eq {t : Tb} (g : Good t) (a b : Sd) : apartL t a b = apartK t a b (t.eyes.length * t.lights.length) := by
  unfold apartL
  split
  · rename_i e
    subst e
    exact ((apartK_nil t a a _).2 fun m _ => tells_self g a _ _).symm
  · rfl
theorem alike_iff {t : Tb} (g : Good t) (a b : Sd) : alike t a b = true ↔ ∀ i k, i < t.eyes.length → k < t.lights.length → tellsAt t a b i k = false := by
  unfold alike
  rw [List.isEmpty_iff, apartL_eq g, apartK_nil]
  constructor
  · intro hh i k hi hk
    have := hh (i * t.lights.length + k) (by
      have h1 := Nat.mul_le_mul_right t.lights.length hi
      rw [Nat.succ_mul] at h1; omega)
    have e1 : (i * t.lights.length + k) / t.lights.length = i := by rw [Nat.add_comm, Nat.add_mul_div_right _ _ (by omega), Nat.div_eq_of_lt hk, Nat.zero_add]
    have e2 : (i * t.lights.length + k) % t.lights.length = k := by rw [Nat.add_comm, Nat.add_mul_mod_self_right, Nat.mod_eq_of_lt hk]
    rwa [e1, e2] at this
  · intro hh m hm
    have gl := g.lights.1
    exact hh _ _ (Nat.div_lt_of_lt_mul (by rw [Nat.mul_comm]; exact hm)) (Nat.mod_lt _ (by omega))
theorem alike_all {t : Tb} (g : Good t) (a b : Sd) : alike t a b = (List.range t.eyes.length).all fun i => !tellsE t i a b := by
  rw [Bool.eq_iff_iff, alike_iff g, List.all_eq_true]
  constructor
  · intro hh i hi
    have : tellsE t i a b = false := by
      unfold tellsE
      rw [List.any_eq_false]
      intro k hk
      rw [hh i k (List.mem_range.1 hi) (List.mem_range.1 hk)]; simp
    rw [this]; rfl
  · intro hh i k hi hk
    have h1 := hh i (List.mem_range.2 hi)
    cases hc : tellsAt t a b i k
    · rfl
    · have : tellsE t i a b = true := any_range_hit hk hc
      rw [this] at h1; simp at h1
theorem dif_comm (a b : Int) : dif a b = dif b a := by unfold dif; omega
theorem seesN_comm (e l a b : Sd) : seesN e l a b = seesN e l b a := by
  have : ∀ i, part e l a b i = part e l b a i := fun i => by
    induction i with
    | zero => rfl
    | succ i ih => simp only [part, ih, term, dif_comm (a.at i) (b.at i)]
  exact this 3
theorem tellsAt_comm (t : Tb) (a b : Sd) (i k : Nat) : tellsAt t a b i k = tellsAt t b a i k := by
  unfold tellsAt
  split
  · rw [seesN_comm]
  · rfl
theorem alike_comm {t : Tb} (g : Good t) (a b : Sd) : alike t a b = alike t b a := by
  rw [Bool.eq_iff_iff, alike_iff g, alike_iff g]
  constructor <;> intro hh i k hi hk <;> rw [tellsAt_comm] <;> exact hh i k hi hk
set_option maxHeartbeats 1000000 in
theorem refAlike_ev {h : H} {v : V} {t : Tb} (hw : h.wf) (ht : TbIs h v t) (g : Good t) {a b : Sd} (ha : InS a 20) (hb : InS b 20) (Q : V → H → Prop)
    (q : ∀ h', h.Sub h' → Q (.bool (alike t a b)) h') : Ev fnG fastA (.fn 43 [] []) [v, .agg (encD a), .agg (encD b)] h Q := by
  have ht0 := ht
  obtain ⟨E, L, P, rfl, aE, aL, aP⟩ := ht
  have hlE := aE.lenE
  have bE := aE.boundE
  rw [alike_all g] at q
  refine Ev_body (fd := c43) rfl rfl rfl ?_
  have s3 : h.Sub (((h.add (.cells .rw [E, L, P])).add (.cells .rw [.int .i64 a.x, .int .i64 a.y, .int .i64 a.z])).add (.cells .rw [.int .i64 b.x, .int .i64 b.y, .int .i64 b.z])) := (by repeat (first | assumption | exact H.Sub.refl (by assumption) | refine H.Sub.add ?_ _ | refine H.Sub.set ?_ (by first | omega | (simp only [H.next_add, H.next_set, H.next_del] <;> omega)) (by first | omega | (simp only [H.next_add, H.next_set, H.next_del] <;> omega)) (by assumption) _))
  simp -implicitDefEqProofs (maxSteps := 999999) (disch := first | with_reducible rfl | omega | (simp only [nA, nS, nD] <;> omega) | fail) only [c43, go_sem, encD]
  refine W_count t.eyes.length (fun k s => ∃ tm h', s = ⟨tm, h', []⟩ ∧ h.Sub h' ∧ h'.cells h.next = some [E, L, P] ∧ h'.cells (h.next + 1) = some [.int .i64 a.x, .int .i64 a.y, .int .i64 a.z] ∧ h'.cells (h.next + 1 + 1) = some [.int .i64 b.x, .int .i64 b.y, .int .i64 b.z] ∧ (∀ i, i < k → tellsE t i a b = false) ∧
      (Opd.t 3).ev tm = .ptr h.next 0 ∧ (Opd.t 4).ev tm = .ptr (h.next + 1) 0 ∧ (Opd.t 5).ev tm = .ptr (h.next + 1 + 1) 0 ∧ (Opd.t 7).ev tm = .int .i64 (k : Int))
    ?_ ?_ (i := 0) (Nat.zero_le _) ⟨_, _, rfl, s3, by simp -implicitDefEqProofs (maxSteps := 999999) (disch := first | with_reducible rfl | omega | (simp only [nA, nS, nD] <;> omega) | fail) only [go_sem], by simp -implicitDefEqProofs (maxSteps := 999999) (disch := first | with_reducible rfl | omega | (simp only [nA, nS, nD] <;> omega) | fail) only [go_sem], by simp -implicitDefEqProofs (maxSteps := 999999) (disch := first | with_reducible rfl | omega | (simp only [nA, nS, nD] <;> omega) | fail) only [go_sem], fun i hi => by omega, (by simp [ev_c, ev_put] <;> rfl), (by simp [ev_c, ev_put] <;> rfl), (by simp [ev_c, ev_put] <;> rfl), (by simp [ev_c, ev_put] <;> rfl)⟩
  · rintro k s hk ⟨tm, h', rfl, hs, r1, r2, r3, hno, t3, t4, t5, t7⟩
    have hk' : (k : Int) < (t.eyes.length : Int) := by omega
    have htl := refTells_ev hs.wf (ht0.mono hs) g hk ha hb
    simp only [encD] at htl
    simp -implicitDefEqProofs (maxSteps := 999999) (disch := first | with_reducible rfl | omega | (simp only [nA, nS, nD] <;> omega) | fail) only [go_sem, t3, t4, t5, t7, r1, r2, r3, hlE, hk']
    refine htl _ fun h2 s2 => ?_
    have sA := hs.trans s2
    cases hc : tellsE t k a b
    · simp -implicitDefEqProofs (maxSteps := 999999) (disch := first | with_reducible rfl | omega | (simp only [nA, nS, nD] <;> omega) | fail) only [go_sem, t3, t4, t5, t7, wr_succ]
      refine ⟨_, _, rfl, sA, s2.cells r1, s2.cells r2, s2.cells r3, fun i hi => ?_, (by simp [ev_c, ev_put, t3] <;> rfl), (by simp [ev_c, ev_put, t4] <;> rfl), (by simp [ev_c, ev_put, t5] <;> rfl), (by simp [ev_c, ev_put] <;> rfl)⟩
      by_cases e : i = k
      · subst e; exact hc
      · exact hno i (by omega)
    · have : ((List.range t.eyes.length).all fun i => !tellsE t i a b) = false := by
        rw [List.all_eq_false]; exact ⟨k, List.mem_range.2 hk, by rw [hc]; simp⟩
      rw [this] at q
      simp -implicitDefEqProofs (maxSteps := 999999) (disch := first | with_reducible rfl | omega | (simp only [nA, nS, nD] <;> omega) | fail) only [go_sem]
      exact q _ sA
  · rintro s ⟨tm, h', rfl, hs, r1, r2, r3, hno, t3, t4, t5, t7⟩
    have : ((List.range t.eyes.length).all fun i => !tellsE t i a b) = true := by
      rw [List.all_eq_true]; intro i hi; rw [hno i (List.mem_range.1 hi)]; rfl
    rw [this] at q
    simp -implicitDefEqProofs (maxSteps := 999999) (disch := first | with_reducible rfl | omega | (simp only [nA, nS, nD] <;> omega) | fail) only [go_sem, t3, t4, t5, t7, r1, hlE, Int.lt_irrefl]
    exact q _ hs
end Go.Ab.Try
set_option linter.unusedSimpArgs false
set_option linter.unusedVariables false
namespace Go.Ab.Try
theorem opened_use {h : H} {E L P : V} {t : Tb} (hw : h.wf) (ht : TbIs h (.agg [E, L, P]) t) (Q : V → H → Prop) (q0 : ∀ h', h.Sub h' → check t ≠ 0 → Q (.tup [.nilp, .int .i64 (check t)]) h') (q1 : ∀ h' d, h.Sub h' → check t = 0 → Good t → DkAt h' d t → Q (.tup [.ptr d 0, .int .i64 0]) h') :
    Ev fnG fastA (.fn 85 [] []) [.agg [E, L, P]] h Q :=
  (opened_ev hw ht).mono fun u h' hu => by
    obtain ⟨s, hu⟩ := hu
    rcases hu with ⟨c, rfl⟩ | ⟨c, d, rfl, _, hd⟩
    · exact q0 _ s c
    · exact q1 _ d s c (check_iff.1 c) hd
def isPc (t : Tb) (p : Int) : Bool := decide (0 ≤ p ∧ p < t.pieces.length)
theorem piece_ev {h : H} {E L P : V} {t : Tb} (hw : h.wf) (ht : TbIs h (.agg [E, L, P]) t) (p : Int) (Q : V → H → Prop) (q : ∀ h', h.Sub h' → Q (.bool (isPc t p)) h') : Ev fnG fastA (.fn 86 [] []) [.agg [E, L, P], .int .i64 p] h Q := by
  obtain ⟨E', L', P', e, aE, aL, aP⟩ := ht
  cases e
  have hlP := aP.lenE
  have bP := aP.boundE
  refine Ev_body (fd := c86) rfl rfl rfl ?_
  have e : inB p 0 ((t.pieces.length : Int) - 1) = isPc t p := by unfold inB isPc; rw [Bool.eq_iff_iff]; simp; omega
  simp -implicitDefEqProofs (maxSteps := 999999) (disch := first | with_reducible rfl | omega | (simp only [nA, nS, nD] <;> omega) | fail) only [c86, go_sem, hlP, wr_in, in_ev, e]
  exact q _ ((by repeat (first | assumption | exact H.Sub.refl (by assumption) | refine H.Sub.add ?_ _ | refine H.Sub.set ?_ (by first | omega | (simp only [H.next_add, H.next_set, H.next_del] <;> omega)) (by first | omega | (simp only [H.next_add, H.next_set, H.next_del] <;> omega)) (by assumption) _)))
end Go.Ab.Try
