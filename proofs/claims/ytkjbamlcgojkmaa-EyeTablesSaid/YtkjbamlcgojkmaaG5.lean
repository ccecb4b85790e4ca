/- EyeTables. How far a part of a shade can change: Shades, as the program and as the reference find it. The reference's Shades, Apart and Scrap. EyeMatches. Add: a table with one more piece. -/
import Derived.Test.YtkjbamlcgojkmaaG4
set_option linter.unusedSimpArgs false
set_option linter.unusedVariables false
namespace Go.Ab.Try
def Sd.put (s : Sd) (p : Nat) (n : Int) : Sd := match p with
  | 0 => ⟨n, s.y, s.z⟩
  | 1 => ⟨s.x, n, s.z⟩
  | _ => ⟨s.x, s.y, n⟩
theorem put_put (s : Sd) (p : Nat) (m n : Int) : (s.put p m).put p n = s.put p n := match p with | 0 => rfl | 1 => rfl | _ + 2 => rfl
def okP (t : Tb) (s : Sd) (p : Nat) (n : Int) : Bool := alike t s (s.put p n)
end Go.Ab.Try
set_option linter.unusedSimpArgs false
set_option linter.unusedVariables false
namespace Go.Ab
end Go.Ab
namespace Go.Ab.Try
end Go.Ab.Try
set_option linter.unusedSimpArgs false
set_option linter.unusedVariables false
namespace Go.Ab.Try
variable {Fn : Nat → Option FD} {fast : Nat → Option (List V → H → Option (V × H))} {N fn : Nat} {ro : Option Nat}
theorem W_split {A P : C} {s : St} {R : X → St → Prop} (J : St → Prop) (h : W Fn fast N fn ro A s (fun x s' => x = .nrm ∧ J s')) (k : ∀ s', J s' → W Fn fast N fn ro P s' R) : W Fn fast N fn ro (A.seq P) s R := by
  rw [W_seq]
  exact h.mono fun x s' ⟨hx, hj⟩ => by subst hx; exact k s' hj
theorem PBd_join {v : V} {c1 c2 : C} {s1 s2 : St} {K : X → St → Prop} {tg} (R : X → St → Prop) (h : PBd v (W Fn fast N fn ro c1 s1 R) (W Fn fast N fn ro c2 s2 R) ⟨⟩) (k : ∀ x s, R x s → K x s) : PBd v (W Fn fast N fn ro c1 s1 K) (W Fn fast N fn ro c2 s2 K) tg := by
  cases v
  case bool b => cases b <;> exact W.mono h k
  all_goals exact h.elim
theorem d30 : decide ((3 : Int) = 0) = false := rfl
theorem d00 : decide ((0 : Int) = 0) = true := rfl
theorem Small_of {t : Tb} (h : greatT t = false) : Small t := by
  simp only [greatT, decide_eq_false_iff_not] at h
  exact ⟨by omega, by omega, by omega⟩
end Go.Ab.Try
set_option linter.unusedSimpArgs false
set_option linter.unusedVariables false
namespace Go.Ab
theorem clone_core {h : H} {x : V} {sz by_ : Nat} {rows : List (List V)} {Q : V → H → Prop} (hw : h.wf) (hx : SlAt h x sz rows) (hl : rows.length * by_ ≤ 1000000000) (hl2 : rows.length ≤ 1000000000) (q : ∀ v h', OwnC h h' v sz rows → Q v h') :
    P2 (e_app' (h.add (.cells .rw [])) sz by_ (.sl h.next 0 0 (.fix 0)) x) Q := by
  have s1 : h.Sub (h.add (.cells .rw [])) := (H.Sub.refl hw).add _
  have hx1 := (hx.mono s1).elems
  rw [e_app_eq, hx1.1, hx1.2]
  simp only [ob_some]
  cases hn : rows.length with
  | zero =>
    have e : rows = [] := List.length_eq_zero_iff.1 hn
    rw [e_app_fix0]
    have : Nat.ble 0 0 = true := rfl
    rw [this, og_true, P2_some]
    exact q _ _ (by rw [e]; exact ⟨s1, by simp, .inr (.inr ⟨h.next, 0, [], rfl, Nat.le_refl _, by rw [H.next_add]; omega, get_add_new rfl, by simp, Nat.le_refl _⟩)⟩)
  | succ k =>
    rw [e_app_full (by omega) (elems_0 _ _ _ _ _) (by rw [hn] at hl; simp only [Nat.zero_add]; omega) (by omega), grown_eq, P2_some]
    exact q _ _ ⟨s1.add _, hx.1, .inr (.inl ⟨(h.add (.cells .rw [])).next, by rw [hn, Nat.zero_add], by rw [H.next_add]; omega, by simp only [H.next_add]; omega, by rw [get_add_new rfl]; rfl⟩)⟩
theorem a_msl_n1 {h : H} {by_ n : Nat} {z : List V} (h1 : (n + 1) * by_ ≤ 1099511627776) (h2 : n + 1 ≤ 1099511627776) :
    a_msl h by_ z (.int .i64 (n : Int)) (.int .i64 ((n + 1 : Nat) : Int)) = some (.sl h.next 0 n (.fix (n + 1)), h.add (.cells .rw (repN (n + 1) z))) := by
  have e1 : Nat.ble ((n + 1) * by_) 1099511627776 = true := by simpa using h1
  have e2 : Nat.ble (n + 1) 1099511627776 = true := by simpa using h2
  have e3 : Nat.ble n (n + 1) = true := by simp
  simp only [a_msl, nat_cst, e1, e2, e3, og_true, lf_eq]
theorem cpy_core {h : H} {x : V} {sz : Nat} {rows : List (List V)} {z : List V} (hx : SlAt h x sz rows) (hw : h.wf) (hz : z.length = sz) (ho : allOne rows.flatten = true) :
    e_cpy (h.add (.cells .rw (repN (rows.length + 1) z))) sz (.sl h.next 0 rows.length (.fix (rows.length + 1))) x = some (.int .i64 (rows.length : Int), h.add (.cells .rw (rows.flatten ++ z))) := by
  have hx1 := (hx.mono ((H.Sub.refl hw).add (.cells .rw (repN (rows.length + 1) z)))).elems
  have hl := flatten_len hx.1
  have hb : Nat.ble rows.length rows.length = true := by simp
  have ht : takeN (rows.length * sz) rows.flatten = some rows.flatten := takeN_eq.2 ⟨by rw [← hl, List.take_length], by omega⟩
  have e1 : lenV (.sl h.next 0 rows.length (.fix (rows.length + 1))) = some rows.length := rfl
  simp only [e_cpy, e1, hx1.1, hx1.2, hb, ht, cpyTo]
  have hr : repN (rows.length + 1) z = repN rows.length z ++ z := by
    have : ∀ n, repN (n + 1) z = repN n z ++ z := fun n => by
      induction n with
      | zero => simp [repN, appN_eq]
      | succ n ih =>
        have e1 : repN (n + 1 + 1) z = z ++ repN (n + 1) z := by simp only [repN, appN_eq]
        have e2 : repN (n + 1) z = z ++ repN n z := by simp only [repN, appN_eq]
        rw [e1, ih, ← List.append_assoc, ← e2, ih]
    exact this _
  cases hv : rows.flatten with
  | nil =>
    have h0 : rows.length * sz = 0 := by rw [← hl, hv]; rfl
    have : repN rows.length z = [] := List.length_eq_zero_iff.1 (by rw [repN_len, hz]; exact h0)
    rw [hr, this]
    simp only [H.put, List.nil_append, withV_some]; rfl
  | cons v vs =>
    rw [hv] at ho hl
    have hp : putN 0 (v :: vs) (repN (rows.length + 1) z) = some ((v :: vs) ++ z) := by
      rw [hr]
      have := putN_app (pre := []) (new := v :: vs) (old := repN rows.length z) (rest := z) (by rw [repN_len, hz, hl])
      simpa using this
    rw [H.put_rw ho (get_add_new rfl) hp, withV_some, set_add_same rfl]; rfl
namespace Try
theorem cloneEye_ev {h : H} {x : V} {rows : List (List V)} (hw : h.wf) (hx : SlAt h x 4 rows) (hl : rows.length ≤ 1000000) (Q : V → H → Prop) (q : ∀ v h', OwnC h h' v 4 rows → Q v h') : Ev fnG fastA (.fn 119 [] []) [x] h Q := by
  refine Ev_body (fd := c119) rfl rfl rfl ?_
  rcases hx.2.2 with ⟨rfl, e⟩ | ⟨b, o, c, cs, rfl, _⟩
  · simp -implicitDefEqProofs (maxSteps := 999999) (disch := first | with_reducible rfl | omega | (simp only [nA, nS, nD] <;> omega) | fail) only [c119, go_sem]
    exact q _ _ (by rw [e]; exact (OwnSl.nil (H.Sub.refl hw) 4).c)
  · simp -implicitDefEqProofs (maxSteps := 999999) (disch := first | with_reducible rfl | omega | (simp only [nA, nS, nD] <;> omega) | fail) only [c119, go_sem]
    refine clone_core hw hx (by omega) (by omega) fun v h' ov => ?_
    simp -implicitDefEqProofs (maxSteps := 999999) (disch := first | with_reducible rfl | omega | (simp only [nA, nS, nD] <;> omega) | fail) only [go_sem]
    exact q _ _ ov
theorem cloneLight_ev {h : H} {x : V} {rows : List (List V)} (hw : h.wf) (hx : SlAt h x 3 rows) (hl : rows.length ≤ 1000000) (Q : V → H → Prop) (q : ∀ v h', OwnC h h' v 3 rows → Q v h') : Ev fnG fastA (.fn 120 [] []) [x] h Q := by
  refine Ev_body (fd := c120) rfl rfl rfl ?_
  rcases hx.2.2 with ⟨rfl, e⟩ | ⟨b, o, c, cs, rfl, _⟩
  · simp -implicitDefEqProofs (maxSteps := 999999) (disch := first | with_reducible rfl | omega | (simp only [nA, nS, nD] <;> omega) | fail) only [c120, go_sem]
    exact q _ _ (by rw [e]; exact (OwnSl.nil (H.Sub.refl hw) 3).c)
  · simp -implicitDefEqProofs (maxSteps := 999999) (disch := first | with_reducible rfl | omega | (simp only [nA, nS, nD] <;> omega) | fail) only [c120, go_sem]
    refine clone_core hw hx (by omega) (by omega) fun v h' ov => ?_
    simp -implicitDefEqProofs (maxSteps := 999999) (disch := first | with_reducible rfl | omega | (simp only [nA, nS, nD] <;> omega) | fail) only [go_sem]
    exact q _ _ ov
def addE (t : Tb) (s : Sd) : Int := if check t ≠ 0 then check t else if s.within 20 = false then 3 else if t.pieces.length = 9 then 9 else 0
def addR (t : Tb) (s : Sd) : Tb := if addE t s = 0 then ⟨t.eyes, t.lights, t.pieces ++ [s]⟩ else ⟨[], [], []⟩
structure TbOwn (h0 h : H) (X Y Z : V) (t : Tb) : Prop where
  x : OwnC h0 h X 4 (t.eyes.map encE)
  y : OwnC h0 h Y 3 (t.lights.map encD)
  z : OwnC h0 h Z 3 (t.pieces.map encD)
  xy : ∀ b, blkOf X b → ¬ blkOf Y b
  xz : ∀ b, blkOf X b → ¬ blkOf Z b
  yz : ∀ b, blkOf Y b → ¬ blkOf Z b
theorem nblk (b : Nat) : ¬ blkOf .nils b := fun ⟨_, _, _, e⟩ => by cases e
theorem TbOwn.nil {h0 h : H} (s : h0.Sub h) : TbOwn h0 h .nils .nils .nils ⟨[], [], []⟩ :=
  ⟨(OwnSl.nil s 4).c, (OwnSl.nil s 3).c, (OwnSl.nil s 3).c, fun b hb => absurd hb (nblk b), fun b hb => absurd hb (nblk b), fun b hb => absurd hb (nblk b)⟩
set_option maxHeartbeats 1000000 in
theorem Add_ev {h : H} {v : V} {t : Tb} (hw : h.wf) (ht : TbIs h v t) (a : Sd) (Q : V → H → Prop) (q : ∀ X Y Z h', TbOwn h h' X Y Z (addR t a) → Q (.tup [.agg [X, Y, Z], .int .i64 (addE t a)]) h') :
    Ev fnG fastA (.fn 59 [] []) [v, .agg (encD a)] h Q := by
  have ht0 := ht
  obtain ⟨E, L, P, rfl, aE, aL, aP⟩ := ht
  refine Ev_body (fd := c59) rfl rfl rfl ?_
  have s4 : h.Sub (((h.add (.cells .rw [E, L, P])).add (.cells .rw [.int .i64 a.x, .int .i64 a.y, .int .i64 a.z])).add (.cells .rw [.nils, .nils, .nils])) := (by repeat (first | assumption | exact H.Sub.refl (by assumption) | refine H.Sub.add ?_ _ | refine H.Sub.set ?_ (by first | omega | (simp only [H.next_add, H.next_set, H.next_del] <;> omega)) (by first | omega | (simp only [H.next_add, H.next_set, H.next_del] <;> omega)) (by assumption) _))
  have q3 : (((h.add (.cells .rw [E, L, P])).add (.cells .rw [.int .i64 a.x, .int .i64 a.y, .int .i64 a.z])).add (.cells .rw [.nils, .nils, .nils])).cells h.next = some [E, L, P] := by simp -implicitDefEqProofs (maxSteps := 999999) (disch := first | with_reducible rfl | omega | (simp only [nA, nS, nD] <;> omega) | fail) only [go_sem]
  have q4 : (((h.add (.cells .rw [E, L, P])).add (.cells .rw [.int .i64 a.x, .int .i64 a.y, .int .i64 a.z])).add (.cells .rw [.nils, .nils, .nils])).cells (h.next + 1) = some [.int .i64 a.x, .int .i64 a.y, .int .i64 a.z] := by simp -implicitDefEqProofs (maxSteps := 999999) (disch := first | with_reducible rfl | omega | (simp only [nA, nS, nD] <;> omega) | fail) only [go_sem]
  have q5 : (((h.add (.cells .rw [E, L, P])).add (.cells .rw [.int .i64 a.x, .int .i64 a.y, .int .i64 a.z])).add (.cells .rw [.nils, .nils, .nils])).get (h.next + 1 + 1) = some (.cells .rw [.nils, .nils, .nils]) := by simp -implicitDefEqProofs (maxSteps := 999999) (disch := first | with_reducible rfl | omega | (simp only [nA, nS, nD] <;> omega) | fail) only [go_sem]
  have n4 : (((h.add (.cells .rw [E, L, P])).add (.cells .rw [.int .i64 a.x, .int .i64 a.y, .int .i64 a.z])).add (.cells .rw [.nils, .nils, .nils])).next = h.next + 3 := by simp only [H.next_add]
  simp -implicitDefEqProofs (maxSteps := 999999) (disch := first | with_reducible rfl | omega | (simp only [nA, nS, nD] <;> omega) | fail) only [c59, go_sem, encD]
  generalize (((h.add (.cells .rw [E, L, P])).add (.cells .rw [.int .i64 a.x, .int .i64 a.y, .int .i64 a.z])).add (.cells .rw [.nils, .nils, .nils])) = h4 at s4 q3 q4 q5 n4 ⊢
  have bad : ∀ h', h.Sub h' → ∀ e : Int, e ≠ 0 → addE t a = e → Q (.tup [.agg [.nils, .nils, .nils], .int .i64 e]) h' := fun h' s e he e1 => by
    have q' := q .nils .nils .nils _ (by unfold addR; rw [e1, if_neg he]; exact TbOwn.nil s)
    rw [e1] at q'; exact q'
  refine (check_ev s4.wf (ht0.mono s4)).mono fun u h5 hu => ?_
  obtain ⟨rfl, s45⟩ := hu
  have r5 := s45.get q5
  have l5 := s45.next
  by_cases c : check t = 0
  case neg =>
    simp -implicitDefEqProofs (maxSteps := 999999) (disch := first | with_reducible rfl | omega | (simp only [nA, nS, nD] <;> omega) | fail) only [go_sem, ne_eq, c, not_false_eq_true, r5]
    exact bad _ ((s4.trans s45).set (by omega) (by omega) hw _) _ c (by unfold addE; rw [if_pos c])
  have g := check_iff.1 c
  have s5 := s4.trans s45
  have hr := right_ev (h := h5) s5.wf a
  simp only [encD] at hr
  simp -implicitDefEqProofs (maxSteps := 999999) (disch := first | with_reducible rfl | omega | (simp only [nA, nS, nD] <;> omega) | fail) only [go_sem, ne_eq, c, not_true_eq_false, s45.cells q4]
  refine hr _ fun h7 s57 => ?_
  have s47 := s45.trans s57
  have s7 := s4.trans s47
  have r7 := s47.get q5
  have l7 := s47.next
  have hlP := aP.lenE
  have gp := g.pieces
  cases ca : a.within 20
  · simp -implicitDefEqProofs (maxSteps := 999999) (disch := first | with_reducible rfl | omega | (simp only [nA, nS, nD] <;> omega) | fail) only [go_sem, Bool.not_false, r7]
    exact bad _ (s7.set (by omega) (by omega) hw _) 3 (by decide) (by unfold addE; rw [if_neg (by simp [c]), if_pos ca])
  by_cases c9 : t.pieces.length = 9
  · have c9' : decide ((t.pieces.length : Int) = 9) = true := by simp [c9]
    simp -implicitDefEqProofs (maxSteps := 999999) (disch := first | with_reducible rfl | omega | (simp only [nA, nS, nD] <;> omega) | fail) only [go_sem, Bool.not_true, r7, s47.cells q3, hlP, c9', evQ_ld]
    exact bad _ (s7.set (by omega) (by omega) hw _) 9 (by decide) (by unfold addE; rw [if_neg (by simp [c]), if_neg (by simp [ca]), if_pos c9])
  have e1 : addE t a = 0 := by unfold addE; rw [if_neg (by simp [c]), if_neg (by simp [ca]), if_neg c9]
  have er : addR t a = ⟨t.eyes, t.lights, t.pieces ++ [a]⟩ := by unfold addR; rw [if_pos e1]
  have c9' : decide ((t.pieces.length : Int) = 9) = false := by simp; omega
  have aP7 := aP.mono s7
  have hm := fun hh => a_msl_n1 (h := hh) (by_ := 24) (n := t.pieces.length) (z := [.int .i64 0, .int .i64 0, .int .i64 0]) (by omega) (by omega)
  have hc := cpy_core (z := [.int .i64 0, .int .i64 0, .int .i64 0]) aP7 s7.wf rfl (allOne_flat (fun a => rfl) t.pieces)
  rw [List.length_map] at hc
  have bP : (t.pieces.length : Int) + 1 = ((t.pieces.length + 1 : Nat) : Int) := by omega
  have sA := (H.Sub.refl s7.wf).add (.cells .rw (repN (t.pieces.length + 1) [.int .i64 0, .int .i64 0, .int .i64 0]))
  have sB := (H.Sub.refl s7.wf).add (.cells .rw ((t.pieces.map encD).flatten ++ [.int .i64 0, .int .i64 0, .int .i64 0]))
  have oZ : OwnC h7 (h7.add (.cells .rw ((t.pieces.map encD).flatten ++ [.int .i64 0, .int .i64 0, .int .i64 0]))) (.sl h7.next 0 t.pieces.length (.fix (t.pieces.length + 1))) 3 (t.pieces.map encD) :=
    ⟨sB, by simp [encD], .inr (.inr ⟨h7.next, t.pieces.length + 1, [.int .i64 0, .int .i64 0, .int .i64 0], by simp, Nat.le_refl _, by rw [H.next_add]; omega, get_add_new rfl, by simp only [List.length_map]; simp only [List.length_cons, List.length_nil]; omega, by simp⟩)⟩
  have r3 := s47.cells q3
  simp -implicitDefEqProofs (maxSteps := 999999) (disch := first | with_reducible rfl | omega | (simp only [nA, nS, nD] <;> omega) | fail) only [go_sem, Bool.not_true, r7, r3, hlP, c9', evQ_ld, wr_succ, hm, sA.cells r3, hc, sB.cells r3]
  have l8 : (h7.add (.cells .rw ((t.pieces.map encD).flatten ++ [.int .i64 0, .int .i64 0, .int .i64 0]))).next = h7.next + 1 := H.next_add _ _
  generalize (h7.add (.cells .rw ((t.pieces.map encD).flatten ++ [.int .i64 0, .int .i64 0, .int .i64 0]))) = h8 at sB oZ l8 ⊢
  have s8 := s7.trans sB
  have gE := g.eyes.2
  have gL := g.lights.2
  refine cloneEye_ev s8.wf (aE.mono s8) (by simp only [List.length_map]; omega) _ fun X h9 oX => ?_
  have s89 := oX.1
  have r9 := s89.cells (sB.cells r3)
  have r84 := (sB.trans s89).cells (s47.cells q4)
  simp -implicitDefEqProofs (maxSteps := 999999) (disch := first | with_reducible rfl | omega | (simp only [nA, nS, nD] <;> omega) | fail) only [go_sem, sB.cells r3, r9, evQ_ld]
  refine cloneLight_ev s89.wf (aL.mono (s8.trans s89)) (by simp only [List.length_map]; omega) _ fun Y hA oY => ?_
  have s9A := oY.1
  have r4A := s9A.cells r84
  have r3A := s9A.cells r9
  have sC := (H.Sub.refl s9A.wf).add (.cells .rw [.int .i64 a.x, .int .i64 a.y, .int .i64 a.z])
  have own1 : SlAt (hA.add (.cells .rw [.int .i64 a.x, .int .i64 a.y, .int .i64 a.z])) (.sl hA.next 0 1 (.fix 1)) 3 [[.int .i64 a.x, .int .i64 a.y, .int .i64 a.z]] := SlAt.new _ rfl rfl (by simp) (by simp) (by simp)
  simp -implicitDefEqProofs (maxSteps := 999999) (disch := first | with_reducible rfl | omega | (simp only [nA, nS, nD] <;> omega) | fail) only [go_sem, sB.cells r3, r9, r3A, r4A, evQ_ld]
  have oZA := (oZ.mono (s89.trans s9A)).mono sC
  have hXZ : ∀ b, blkOf X b → h8.next ≤ b := fun b hb => (oX.blk hb).1
  have hYZ : ∀ b, blkOf Y b → h9.next ≤ b := fun b hb => (oY.blk hb).1
  have hXl : ∀ b, blkOf X b → b < h9.next := fun b hb => (oX.blk hb).2.1
  have hYl : ∀ b, blkOf Y b → b < hA.next := fun b hb => (oY.blk hb).2.1
  have lC := sC.next
  have l9 := s89.next
  refine oZA.app1 (by_ := 24) (r := encD a) s7.wf rfl (by omega) own1 rfl (by simp only [List.length_map]; omega) (by simp only [List.length_map]; omega) fun Z hB oZB hZ kB => ?_
  have sB7 := oZB.1
  have sHB := s7.trans sB7
  have zo : ∀ b, blkOf (.sl h7.next 0 t.pieces.length (.fix (t.pieces.length + 1))) b → b = h7.next := fun b ⟨_, _, _, e⟩ => by cases e; rfl
  have hZ' : ∀ b, blkOf Z b → b = h7.next ∨ hA.next + 1 ≤ b := fun b hb => (hZ b hb).imp (zo b) (fun h => by rwa [H.next_add] at h)
  have x1 := oX.one
  have y1 := oY.one
  have z1 := oZB.one
  have rB := sB7.get r7
  have lB := sB7.wf _ _ rB
  have kF := Keeps.set hB (h.next + 1 + 1) (.cells .rw [X, Y, Z])
  have sF := sHB.set (b := h.next + 1 + 1) (by omega) (by have := sB7.next; omega) hw (.cells .rw [X, Y, Z])
  have fX := ((((oX.base s8).mono s9A).mono sC).keep kB sHB fun b hb hz => by have := zo b hz; have := hXZ b hb; omega).keep kF sF fun b hb hz => by have := hXZ b hb; omega
  have fY := (((oY.base (s8.trans s89)).mono sC).keep kB sHB fun b hb hz => by have := zo b hz; have := hYZ b hb; omega).keep kF sF fun b hb hz => by have := hYZ b hb; omega
  have fZ := (oZB.base s7).keep kF sF fun b hb hz => by have := hZ' b hb; have := s9A.next; omega
  have pm : (t.pieces ++ [a]).map encD = t.pieces.map encD ++ [encD a] := by simp
  have q' := q X Y Z _ (by rw [er]; exact ⟨fX, fY, by rw [pm]; exact fZ, fun b hb hc => by have := hXl b hb; have := hYZ b hc; omega, fun b hb hc => by have := hXl b hb; have := hXZ b hb; have := hZ' b hc; have := s9A.next; omega, fun b hb hc => by have := hYl b hb; have := hYZ b hb; have := hZ' b hc; omega⟩)
  rw [e1] at q'
  simp -implicitDefEqProofs (maxSteps := 999999) (disch := first | with_reducible rfl | omega | (simp only [nA, nS, nD] <;> omega) | fail) only [go_sem, sB.cells r3, r9, r3A, r4A, r84, sB.cells (s47.cells q4), evQ_ld, cells_one x1, cells_one y1, cells_one z1, x1, y1, z1, rB]
  exact q'
end Try
end Go.Ab
set_option linter.unusedSimpArgs false
set_option linter.unusedVariables false
namespace Go.Ab.Try
theorem TbOwn.is {h0 h : H} {X Y Z : V} {t : Tb} (a : TbOwn h0 h X Y Z t) (hl : t.eyes.length ≤ 1000 ∧ t.lights.length ≤ 1000 ∧ t.pieces.length ≤ 1000) : TbIs h (.agg [X, Y, Z]) t :=
  ⟨X, Y, Z, rfl, a.x.sl (by simp only [List.length_map]; omega), a.y.sl (by simp only [List.length_map]; omega), a.z.sl (by simp only [List.length_map]; omega)⟩
set_option maxHeartbeats 4000000 in
theorem EyeTables_ev {h : H} {v : V} {t : Tb} (hw : h.wf) (ht : TbIs h v t) (p r : Int) (a b : Sd) :
    Ev fnG fastA (.fn 8 [] []) [v, .agg [.int .i64 p, .int .i64 r], .agg (encD a), .agg (encD b)] h (fun u _ => u = .bool true) := by
  have ht0 := ht
  obtain ⟨E, L, P, rfl, aE, aL, aP⟩ := ht
  refine Ev_body (fd := c8) rfl rfl rfl ?_
  have s3 : h.Sub ((((h.add (.cells .rw [E, L, P])).add (.cells .rw [.int .i64 p, .int .i64 r])).add (.cells .rw [.int .i64 a.x, .int .i64 a.y, .int .i64 a.z])).add (.cells .rw [.int .i64 b.x, .int .i64 b.y, .int .i64 b.z])) := (by repeat (first | assumption | exact H.Sub.refl (by assumption) | refine H.Sub.add ?_ _ | refine H.Sub.set ?_ (by first | omega | (simp only [H.next_add, H.next_set, H.next_del] <;> omega)) (by first | omega | (simp only [H.next_add, H.next_set, H.next_del] <;> omega)) (by assumption) _))
  have q3 : ((((h.add (.cells .rw [E, L, P])).add (.cells .rw [.int .i64 p, .int .i64 r])).add (.cells .rw [.int .i64 a.x, .int .i64 a.y, .int .i64 a.z])).add (.cells .rw [.int .i64 b.x, .int .i64 b.y, .int .i64 b.z])).cells h.next = some [E, L, P] := by simp -implicitDefEqProofs (maxSteps := 999999) (disch := first | with_reducible rfl | omega | (simp only [nA, nS, nD] <;> omega) | fail) only [go_sem]
  have qk : ((((h.add (.cells .rw [E, L, P])).add (.cells .rw [.int .i64 p, .int .i64 r])).add (.cells .rw [.int .i64 a.x, .int .i64 a.y, .int .i64 a.z])).add (.cells .rw [.int .i64 b.x, .int .i64 b.y, .int .i64 b.z])).cells (h.next + 1) = some [.int .i64 p, .int .i64 r] := by simp -implicitDefEqProofs (maxSteps := 999999) (disch := first | with_reducible rfl | omega | (simp only [nA, nS, nD] <;> omega) | fail) only [go_sem]
  have q4 : ((((h.add (.cells .rw [E, L, P])).add (.cells .rw [.int .i64 p, .int .i64 r])).add (.cells .rw [.int .i64 a.x, .int .i64 a.y, .int .i64 a.z])).add (.cells .rw [.int .i64 b.x, .int .i64 b.y, .int .i64 b.z])).cells (h.next + 1 + 1) = some [.int .i64 a.x, .int .i64 a.y, .int .i64 a.z] := by simp -implicitDefEqProofs (maxSteps := 999999) (disch := first | with_reducible rfl | omega | (simp only [nA, nS, nD] <;> omega) | fail) only [go_sem]
  have q5 : ((((h.add (.cells .rw [E, L, P])).add (.cells .rw [.int .i64 p, .int .i64 r])).add (.cells .rw [.int .i64 a.x, .int .i64 a.y, .int .i64 a.z])).add (.cells .rw [.int .i64 b.x, .int .i64 b.y, .int .i64 b.z])).cells (h.next + 1 + 1 + 1) = some [.int .i64 b.x, .int .i64 b.y, .int .i64 b.z] := by simp -implicitDefEqProofs (maxSteps := 999999) (disch := first | with_reducible rfl | omega | (simp only [nA, nS, nD] <;> omega) | fail) only [go_sem]
  have nx : ((((h.add (.cells .rw [E, L, P])).add (.cells .rw [.int .i64 p, .int .i64 r])).add (.cells .rw [.int .i64 a.x, .int .i64 a.y, .int .i64 a.z])).add (.cells .rw [.int .i64 b.x, .int .i64 b.y, .int .i64 b.z])).next = h.next + 4 := by simp only [H.next_add]
  simp -implicitDefEqProofs (maxSteps := 999999) (disch := first | with_reducible rfl | omega | (simp only [nA, nS, nD] <;> omega) | fail) only [c8, go_sem, encD]
  generalize ((((h.add (.cells .rw [E, L, P])).add (.cells .rw [.int .i64 p, .int .i64 r])).add (.cells .rw [.int .i64 a.x, .int .i64 a.y, .int .i64 a.z])).add (.cells .rw [.int .i64 b.x, .int .i64 b.y, .int .i64 b.z])) = h3 at s3 q3 qk q4 q5 nx ⊢
  refine great_ev s3.wf (ht0.mono s3) _ fun h4 s34 => ?_
  cases hg : greatT t
  case true =>
    simp -implicitDefEqProofs (maxSteps := 999999) (disch := first | with_reducible rfl | omega | (simp only [nA, nS, nD] <;> omega) | fail) only [go_sem, awake_eq]
  have hsm := Small_of hg
  simp -implicitDefEqProofs (maxSteps := 999999) (disch := first | with_reducible rfl | omega | (simp only [nA, nS, nD] <;> omega) | fail) only [go_sem, s34.cells q3]
  refine own_ev s34.wf (ht0.mono (s3.trans s34)) hsm _ fun u h5 s45 hu => ?_
  have s35 := s34.trans s45
  simp -implicitDefEqProofs (maxSteps := 999999) (disch := first | with_reducible rfl | omega | (simp only [nA, nS, nD] <;> omega) | fail) only [go_sem, s34.cells q3, s35.cells q3]
  refine theirs_ev s45.wf (ht0.mono (s3.trans s35)) hsm _ fun o h6 s56 ho => ?_
  have s36 := s35.trans s56
  have hu0 := hu.is hsm
  have ho0 := ho
  obtain ⟨a1, a2, a3, rfl, hu⟩ := hu
  obtain ⟨E2, L2, P2, rfl, o1, o2, o3⟩ := ho
  have lx := s36.next
  rw [nx] at lx
  have n1 := o1.one
  have n2 := o2.one
  have n3 := o3.one
  have s67 : h6.Sub ((((((((h6.add (.cells .rw [.nils, .nils, .nils])).add (.cells .rw [.nils, .nils, .nils])).set h6.next (.cells .rw [.sl a1 0 t.eyes.length (.fix t.eyes.length), .sl a2 0 t.lights.length (.fix t.lights.length), .sl a3 0 t.pieces.length (.fix t.pieces.length)])).set (h6.next + 1) (.cells .rw [E2, L2, P2])).add (.cells .rw [.int .i64 0, .int .i64 0, .int .i64 0])).add (.cells .rw [.int .i64 0, .int .i64 0, .int .i64 0])).set (h6.next + 1 + 1) (.cells .rw [.int .i64 a.x, .int .i64 a.y, .int .i64 a.z])).set (h6.next + 1 + 1 + 1) (.cells .rw [.int .i64 b.x, .int .i64 b.y, .int .i64 b.z])) := (((((((H.Sub.refl s56.wf).add _).add _).set (b := h6.next) (Nat.le_refl _) (by simp only [H.next_add]; omega) s56.wf _).set (b := h6.next + 1) (by omega) (by simp only [H.next_set, H.next_add]; omega) s56.wf _).add _).add _).set (b := h6.next + 1 + 1) (by omega) (by simp only [H.next_set, H.next_add]; omega) s56.wf _ |>.set (b := h6.next + 1 + 1 + 1) (by omega) (by simp only [H.next_set, H.next_add]; omega) s56.wf _
  have c13 : ((((((((h6.add (.cells .rw [.nils, .nils, .nils])).add (.cells .rw [.nils, .nils, .nils])).set h6.next (.cells .rw [.sl a1 0 t.eyes.length (.fix t.eyes.length), .sl a2 0 t.lights.length (.fix t.lights.length), .sl a3 0 t.pieces.length (.fix t.pieces.length)])).set (h6.next + 1) (.cells .rw [E2, L2, P2])).add (.cells .rw [.int .i64 0, .int .i64 0, .int .i64 0])).add (.cells .rw [.int .i64 0, .int .i64 0, .int .i64 0])).set (h6.next + 1 + 1) (.cells .rw [.int .i64 a.x, .int .i64 a.y, .int .i64 a.z])).set (h6.next + 1 + 1 + 1) (.cells .rw [.int .i64 b.x, .int .i64 b.y, .int .i64 b.z])).cells h6.next = some [.sl a1 0 t.eyes.length (.fix t.eyes.length), .sl a2 0 t.lights.length (.fix t.lights.length), .sl a3 0 t.pieces.length (.fix t.pieces.length)] := by simp -implicitDefEqProofs (maxSteps := 999999) (disch := first | with_reducible rfl | omega | (simp only [nA, nS, nD] <;> omega) | fail) only [go_sem]
  have c14 : ((((((((h6.add (.cells .rw [.nils, .nils, .nils])).add (.cells .rw [.nils, .nils, .nils])).set h6.next (.cells .rw [.sl a1 0 t.eyes.length (.fix t.eyes.length), .sl a2 0 t.lights.length (.fix t.lights.length), .sl a3 0 t.pieces.length (.fix t.pieces.length)])).set (h6.next + 1) (.cells .rw [E2, L2, P2])).add (.cells .rw [.int .i64 0, .int .i64 0, .int .i64 0])).add (.cells .rw [.int .i64 0, .int .i64 0, .int .i64 0])).set (h6.next + 1 + 1) (.cells .rw [.int .i64 a.x, .int .i64 a.y, .int .i64 a.z])).set (h6.next + 1 + 1 + 1) (.cells .rw [.int .i64 b.x, .int .i64 b.y, .int .i64 b.z])).cells (h6.next + 1) = some [E2, L2, P2] := by simp -implicitDefEqProofs (maxSteps := 999999) (disch := first | with_reducible rfl | omega | (simp only [nA, nS, nD] <;> omega) | fail) only [go_sem]
  have c15 : ((((((((h6.add (.cells .rw [.nils, .nils, .nils])).add (.cells .rw [.nils, .nils, .nils])).set h6.next (.cells .rw [.sl a1 0 t.eyes.length (.fix t.eyes.length), .sl a2 0 t.lights.length (.fix t.lights.length), .sl a3 0 t.pieces.length (.fix t.pieces.length)])).set (h6.next + 1) (.cells .rw [E2, L2, P2])).add (.cells .rw [.int .i64 0, .int .i64 0, .int .i64 0])).add (.cells .rw [.int .i64 0, .int .i64 0, .int .i64 0])).set (h6.next + 1 + 1) (.cells .rw [.int .i64 a.x, .int .i64 a.y, .int .i64 a.z])).set (h6.next + 1 + 1 + 1) (.cells .rw [.int .i64 b.x, .int .i64 b.y, .int .i64 b.z])).cells (h6.next + 1 + 1) = some [.int .i64 a.x, .int .i64 a.y, .int .i64 a.z] := by simp -implicitDefEqProofs (maxSteps := 999999) (disch := first | with_reducible rfl | omega | (simp only [nA, nS, nD] <;> omega) | fail) only [go_sem]
  have c16 : ((((((((h6.add (.cells .rw [.nils, .nils, .nils])).add (.cells .rw [.nils, .nils, .nils])).set h6.next (.cells .rw [.sl a1 0 t.eyes.length (.fix t.eyes.length), .sl a2 0 t.lights.length (.fix t.lights.length), .sl a3 0 t.pieces.length (.fix t.pieces.length)])).set (h6.next + 1) (.cells .rw [E2, L2, P2])).add (.cells .rw [.int .i64 0, .int .i64 0, .int .i64 0])).add (.cells .rw [.int .i64 0, .int .i64 0, .int .i64 0])).set (h6.next + 1 + 1) (.cells .rw [.int .i64 a.x, .int .i64 a.y, .int .i64 a.z])).set (h6.next + 1 + 1 + 1) (.cells .rw [.int .i64 b.x, .int .i64 b.y, .int .i64 b.z])).cells (h6.next + 1 + 1 + 1) = some [.int .i64 b.x, .int .i64 b.y, .int .i64 b.z] := by simp -implicitDefEqProofs (maxSteps := 999999) (disch := first | with_reducible rfl | omega | (simp only [nA, nS, nD] <;> omega) | fail) only [go_sem]
  simp -implicitDefEqProofs (maxSteps := 999999) (disch := first | with_reducible rfl | omega | (simp only [nA, nS, nD] <;> omega) | fail) only [go_sem, s34.cells q3, s35.cells q3, s36.cells q3, s36.cells q4, s36.cells q5, n1, n2, n3]
  generalize ((((((((h6.add (.cells .rw [.nils, .nils, .nils])).add (.cells .rw [.nils, .nils, .nils])).set h6.next (.cells .rw [.sl a1 0 t.eyes.length (.fix t.eyes.length), .sl a2 0 t.lights.length (.fix t.lights.length), .sl a3 0 t.pieces.length (.fix t.pieces.length)])).set (h6.next + 1) (.cells .rw [E2, L2, P2])).add (.cells .rw [.int .i64 0, .int .i64 0, .int .i64 0])).add (.cells .rw [.int .i64 0, .int .i64 0, .int .i64 0])).set (h6.next + 1 + 1) (.cells .rw [.int .i64 a.x, .int .i64 a.y, .int .i64 a.z])).set (h6.next + 1 + 1 + 1) (.cells .rw [.int .i64 b.x, .int .i64 b.y, .int .i64 b.z])) = h7 at s67 c13 c14 c15 c16 ⊢
  have s37 := s36.trans s67
  have s7 := s3.trans s37
  refine refCheck_ev s7.wf (ho0.mono s67) _ fun h8 s78 => ?_
  simp -implicitDefEqProofs (maxSteps := 999999) (disch := first | with_reducible rfl | omega | (simp only [nA, nS, nD] <;> omega) | fail) only [go_sem, s78.cells c13]
  refine (check_ev s78.wf (hu0.mono (s56.trans (s67.trans s78)))).mono fun u' h9 hu' => ?_
  obtain ⟨rfl, s89⟩ := hu'
  have s79 := s78.trans s89
  have nn : ∀ n : Int, decide (n ≠ n) = false := fun n => by simp
  simp -implicitDefEqProofs (maxSteps := 999999) (disch := first | with_reducible rfl | omega | (simp only [nA, nS, nD] <;> omega) | fail) only [go_sem, nn]
  refine PBd_join (R := fun x s => x = .nrm ∧ ∃ tm h', s = ⟨tm, h', []⟩ ∧ h7.Sub h' ∧ (Opd.t 4).ev tm = .ptr h.next 0 ∧ (Opd.t 5).ev tm = .ptr (h.next + 1) 0 ∧ (Opd.t 6).ev tm = .ptr (h.next + 1 + 1) 0 ∧ (Opd.t 7).ev tm = .ptr (h.next + 1 + 1 + 1) 0 ∧ (Opd.t 9).ev tm = .ptr h6.next 0 ∧ (Opd.t 14).ev tm = .int .i64 (seesE t p r a b) ∧ (Opd.t 16).ev tm = .int .i64 (seesR t p r a b) ∧ (Opd.t 15).ev tm = .int .i64 (addE t a)) ?_ fun x s hx => ?_
  · by_cases c : check t = 0
    case neg =>
      have e1 : seesE t p r a b = check t := by unfold seesE; rw [if_pos c]
      have e2 : addE t a = check t := by unfold addE; rw [if_pos c]
      have e3 : seesR t p r a b = 0 := by unfold seesR; rw [e1, if_neg c]
      simp -implicitDefEqProofs (maxSteps := 999999) (disch := first | with_reducible rfl | omega | (simp only [nA, nS, nD] <;> omega) | fail) only [go_sem, c]
      exact ⟨_, _, rfl, s79, (by simp [ev_c, ev_put] <;> rfl), (by simp [ev_c, ev_put] <;> rfl), (by simp [ev_c, ev_put] <;> rfl), (by simp [ev_c, ev_put] <;> rfl), (by simp [ev_c, ev_put] <;> rfl), by rw [e1]; exact (by simp [ev_c, ev_put] <;> rfl), by rw [e3]; exact (by simp [ev_c, ev_put] <;> rfl), by rw [e2]; exact (by simp [ev_c, ev_put] <;> rfl)⟩
    have g := check_iff.1 c
    have hlE := aE.lenE
    have hlL := aL.lenE
    have hlP := aP.lenE
    have s39 := s37.trans s79
    rw [show decide (check t = 0) = true from decide_eq_true c, PBd_true]
    refine W_split (fun s => ∃ tm h', s = ⟨tm, h', []⟩ ∧ h7.Sub h' ∧ (Opd.t 4).ev tm = .ptr h.next 0 ∧ (Opd.t 5).ev tm = .ptr (h.next + 1) 0 ∧ (Opd.t 6).ev tm = .ptr (h.next + 1 + 1) 0 ∧ (Opd.t 7).ev tm = .ptr (h.next + 1 + 1 + 1) 0 ∧ (Opd.t 9).ev tm = .ptr h6.next 0 ∧ (Opd.t 11).ev tm = .ptr (h6.next + 1 + 1) 0 ∧ (Opd.t 14).ev tm = .int .i64 (seesE t p r a b) ∧ (Opd.t 16).ev tm = .int .i64 (seesR t p r a b)) ?_ ?_
    · cases hlk : lookB t p r
      · have e1 : seesE t p r a b = 1 := by unfold seesE; rw [if_neg (by simp [c]), if_pos hlk]
        have e3 : seesR t p r a b = 0 := by unfold seesR; rw [e1]; rfl
        simp only [lookB, decide_eq_false_iff_not] at hlk
        by_cases p0 : p < 0
        · simp -implicitDefEqProofs (maxSteps := 999999) (disch := first | with_reducible rfl | omega | (simp only [nA, nS, nD] <;> omega) | fail) only [go_sem, s39.cells qk, s39.cells q3, hlE, hlL, p0, evQ_ld]
          exact ⟨_, _, rfl, s79, (by simp [ev_c, ev_put] <;> rfl), (by simp [ev_c, ev_put] <;> rfl), (by simp [ev_c, ev_put] <;> rfl), (by simp [ev_c, ev_put] <;> rfl), (by simp [ev_c, ev_put] <;> rfl), (by simp [ev_c, ev_put] <;> rfl), by rw [e1]; exact (by simp [ev_c, ev_put] <;> rfl), by rw [e3]; exact (by simp [ev_c, ev_put] <;> rfl)⟩
        by_cases p1 : (t.eyes.length : Int) ≤ p
        · simp -implicitDefEqProofs (maxSteps := 999999) (disch := first | with_reducible rfl | omega | (simp only [nA, nS, nD] <;> omega) | fail) only [go_sem, s39.cells qk, s39.cells q3, hlE, hlL, p0, p1, evQ_ld]
          exact ⟨_, _, rfl, s79, (by simp [ev_c, ev_put] <;> rfl), (by simp [ev_c, ev_put] <;> rfl), (by simp [ev_c, ev_put] <;> rfl), (by simp [ev_c, ev_put] <;> rfl), (by simp [ev_c, ev_put] <;> rfl), (by simp [ev_c, ev_put] <;> rfl), by rw [e1]; exact (by simp [ev_c, ev_put] <;> rfl), by rw [e3]; exact (by simp [ev_c, ev_put] <;> rfl)⟩
        by_cases r0 : r < 0
        · simp -implicitDefEqProofs (maxSteps := 999999) (disch := first | with_reducible rfl | omega | (simp only [nA, nS, nD] <;> omega) | fail) only [go_sem, s39.cells qk, s39.cells q3, hlE, hlL, p0, p1, r0, evQ_ld]
          exact ⟨_, _, rfl, s79, (by simp [ev_c, ev_put] <;> rfl), (by simp [ev_c, ev_put] <;> rfl), (by simp [ev_c, ev_put] <;> rfl), (by simp [ev_c, ev_put] <;> rfl), (by simp [ev_c, ev_put] <;> rfl), (by simp [ev_c, ev_put] <;> rfl), by rw [e1]; exact (by simp [ev_c, ev_put] <;> rfl), by rw [e3]; exact (by simp [ev_c, ev_put] <;> rfl)⟩
        have r1 : (t.lights.length : Int) ≤ r := by omega
        simp -implicitDefEqProofs (maxSteps := 999999) (disch := first | with_reducible rfl | omega | (simp only [nA, nS, nD] <;> omega) | fail) only [go_sem, s39.cells qk, s39.cells q3, hlE, hlL, p0, p1, r0, r1, evQ_ld]
        exact ⟨_, _, rfl, s79, (by simp [ev_c, ev_put] <;> rfl), (by simp [ev_c, ev_put] <;> rfl), (by simp [ev_c, ev_put] <;> rfl), (by simp [ev_c, ev_put] <;> rfl), (by simp [ev_c, ev_put] <;> rfl), (by simp [ev_c, ev_put] <;> rfl), by rw [e1]; exact (by simp [ev_c, ev_put] <;> rfl), by rw [e3]; exact (by simp [ev_c, ev_put] <;> rfl)⟩
      have hlk0 := hlk
      simp only [lookB, decide_eq_true_eq] at hlk
      have p0 : ¬ p < 0 := by omega
      have p1 : ¬ (t.eyes.length : Int) ≤ p := by omega
      have r0 : ¬ r < 0 := by omega
      have r1 : ¬ (t.lights.length : Int) ≤ r := by omega
      have d3 : decide ((3 : Int) ≠ 0) = true := rfl
      have d0 : decide ((0 : Int) ≠ 0) = false := rfl
      have hr := fun hh (hw : h7.Sub hh) (s : Sd) => refRight_ev (h := hh) (hw := hw.wf) s
      simp only [encD] at hr
      simp -implicitDefEqProofs (maxSteps := 999999) (disch := first | with_reducible rfl | omega | (simp only [nA, nS, nD] <;> omega) | fail) only [go_sem, s39.cells qk, s39.cells q3, hlE, hlL, p0, p1, r0, r1, evQ_ld, s79.cells c15]
      refine hr _ s79 a _ fun hA sA => ?_
      have s7A := s79.trans sA
      cases ca : a.within 20
      · have e1 : seesE t p r a b = 3 := by unfold seesE; rw [if_neg (by simp [c]), if_neg (by simp [hlk0]), if_pos (.inl ca)]
        have e3 : seesR t p r a b = 0 := by unfold seesR; rw [e1]; rfl
        simp -implicitDefEqProofs (maxSteps := 999999) (disch := first | with_reducible rfl | omega | (simp only [nA, nS, nD] <;> omega) | fail) only [go_sem, d3, Bool.false_eq_true, ↓reduceIte]
        exact ⟨_, _, rfl, s7A, (by simp [ev_c, ev_put] <;> rfl), (by simp [ev_c, ev_put] <;> rfl), (by simp [ev_c, ev_put] <;> rfl), (by simp [ev_c, ev_put] <;> rfl), (by simp [ev_c, ev_put] <;> rfl), (by simp [ev_c, ev_put] <;> rfl), by rw [e1]; exact (by simp [ev_c, ev_put] <;> rfl), by rw [e3]; exact (by simp [ev_c, ev_put] <;> rfl)⟩
      simp -implicitDefEqProofs (maxSteps := 999999) (disch := first | with_reducible rfl | omega | (simp only [nA, nS, nD] <;> omega) | fail) only [go_sem, d0, ↓reduceIte, s7A.cells c16]
      refine hr _ s7A b _ fun hB sB => ?_
      have s7B := s7A.trans sB
      cases cb : b.within 20
      · have e1 : seesE t p r a b = 3 := by unfold seesE; rw [if_neg (by simp [c]), if_neg (by simp [hlk0]), if_pos (.inr cb)]
        have e3 : seesR t p r a b = 0 := by unfold seesR; rw [e1]; rfl
        simp -implicitDefEqProofs (maxSteps := 999999) (disch := first | with_reducible rfl | omega | (simp only [nA, nS, nD] <;> omega) | fail) only [go_sem, d3, Bool.false_eq_true, ↓reduceIte]
        exact ⟨_, _, rfl, s7B, (by simp [ev_c, ev_put] <;> rfl), (by simp [ev_c, ev_put] <;> rfl), (by simp [ev_c, ev_put] <;> rfl), (by simp [ev_c, ev_put] <;> rfl), (by simp [ev_c, ev_put] <;> rfl), (by simp [ev_c, ev_put] <;> rfl), by rw [e1]; exact (by simp [ev_c, ev_put] <;> rfl), by rw [e3]; exact (by simp [ev_c, ev_put] <;> rfl)⟩
      have e1 : seesE t p r a b = 0 := by unfold seesE; rw [if_neg (by simp [c]), if_neg (by simp [hlk0]), if_neg (by simp [ca, cb])]
      obtain ⟨i, rfl⟩ := Int.eq_ofNat_of_zero_le hlk.1.1
      obtain ⟨k, rfl⟩ := Int.eq_ofNat_of_zero_le hlk.2.1
      have hi : i < t.eyes.length := by omega
      have hk : k < t.lights.length := by omega
      have e3 : seesR t (i : Int) (k : Int) a b = seesN t.eyes[i].s t.lights[k] a b := by
        unfold seesR seesI; rw [e1, if_pos rfl, Int.toNat_natCast, Int.toNat_natCast, List.getElem?_eq_getElem hi, List.getElem?_eq_getElem hk]
      have hse := refSees_ev (h := hB) s7B.wf (ho0.mono (s67.trans s7B)) g hi hk (within_iff.1 ca) (within_iff.1 cb)
      simp only [encD] at hse
      simp -implicitDefEqProofs (maxSteps := 999999) (disch := first | with_reducible rfl | omega | (simp only [nA, nS, nD] <;> omega) | fail) only [go_sem, d0, ↓reduceIte, s7B.cells c14, s7B.cells c15, s7B.cells c16, (s37.trans s7B).cells qk]
      refine hse _ fun hC sC => ?_
      simp -implicitDefEqProofs (maxSteps := 999999) (disch := first | with_reducible rfl | omega | (simp only [nA, nS, nD] <;> omega) | fail) only [go_sem]
      exact ⟨_, _, rfl, (s7B.trans sC), (by simp [ev_c, ev_put] <;> rfl), (by simp [ev_c, ev_put] <;> rfl), (by simp [ev_c, ev_put] <;> rfl), (by simp [ev_c, ev_put] <;> rfl), (by simp [ev_c, ev_put] <;> rfl), (by simp [ev_c, ev_put] <;> rfl), by rw [e1, ← c]; exact (by simp [ev_c, ev_put] <;> rfl), by rw [e3]; exact (by simp [ev_c, ev_put] <;> rfl)⟩
    · rintro s ⟨tm, h', rfl, sM, t4, t5, t6, t7, t9, t11, t14, t16⟩
      have hr := fun hh (hw : h7.Sub hh) (s : Sd) => refRight_ev (h := hh) (hw := hw.wf) s
      simp only [encD] at hr
      simp -implicitDefEqProofs (maxSteps := 999999) (disch := first | with_reducible rfl | omega | (simp only [nA, nS, nD] <;> omega) | fail) only [go_sem, t4, t5, t6, t7, t9, t11, t14, t16, sM.cells c15]
      refine hr _ sM a _ fun hA sA => ?_
      have s7A := sM.trans sA
      have s3A := s37.trans s7A
      cases ca : a.within 20
      · have e2 : addE t a = 3 := by unfold addE; rw [if_neg (by simp [c]), if_pos ca]
        simp -implicitDefEqProofs (maxSteps := 999999) (disch := first | with_reducible rfl | omega | (simp only [nA, nS, nD] <;> omega) | fail) only [go_sem, t4, t5, t6, t7, t9, t11, t14, t16, d30, Bool.false_eq_true, ↓reduceIte]
        exact ⟨_, _, rfl, s7A, (by simp [ev_c, ev_put, t4] <;> rfl), (by simp [ev_c, ev_put, t5] <;> rfl), (by simp [ev_c, ev_put, t6] <;> rfl), (by simp [ev_c, ev_put, t7] <;> rfl), (by simp [ev_c, ev_put, t9] <;> rfl), (by simp [ev_c, ev_put, t14] <;> rfl), (by simp [ev_c, ev_put, t16] <;> rfl), by rw [e2]; exact (by simp [ev_c, ev_put] <;> rfl)⟩
      by_cases c9 : t.pieces.length = 9
      · have e2 : addE t a = 9 := by unfold addE; rw [if_neg (by simp [c]), if_neg (by simp [ca]), if_pos c9]
        have c9' : decide ((t.pieces.length : Int) = 9) = true := by simp [c9]
        simp -implicitDefEqProofs (maxSteps := 999999) (disch := first | with_reducible rfl | omega | (simp only [nA, nS, nD] <;> omega) | fail) only [go_sem, t4, t5, t6, t7, t9, t11, t14, t16, d00, ↓reduceIte, s3A.cells q3, hlP, c9', evQ_ld]
        exact ⟨_, _, rfl, s7A, (by simp [ev_c, ev_put, t4] <;> rfl), (by simp [ev_c, ev_put, t5] <;> rfl), (by simp [ev_c, ev_put, t6] <;> rfl), (by simp [ev_c, ev_put, t7] <;> rfl), (by simp [ev_c, ev_put, t9] <;> rfl), (by simp [ev_c, ev_put, t14] <;> rfl), (by simp [ev_c, ev_put, t16] <;> rfl), by rw [e2]; exact (by simp [ev_c, ev_put] <;> rfl)⟩
      · have e2 : addE t a = 0 := by unfold addE; rw [if_neg (by simp [c]), if_neg (by simp [ca]), if_neg c9]
        have c9' : decide ((t.pieces.length : Int) = 9) = false := by simp; omega
        simp -implicitDefEqProofs (maxSteps := 999999) (disch := first | with_reducible rfl | omega | (simp only [nA, nS, nD] <;> omega) | fail) only [go_sem, t4, t5, t6, t7, t9, t11, t14, t16, d00, ↓reduceIte, s3A.cells q3, hlP, c9', evQ_ld]
        exact ⟨_, _, rfl, s7A, (by simp [ev_c, ev_put, t4] <;> rfl), (by simp [ev_c, ev_put, t5] <;> rfl), (by simp [ev_c, ev_put, t6] <;> rfl), (by simp [ev_c, ev_put, t7] <;> rfl), (by simp [ev_c, ev_put, t9] <;> rfl), (by simp [ev_c, ev_put, t14] <;> rfl), (by simp [ev_c, ev_put, t16] <;> rfl), by rw [e2]; exact (by simp [ev_c, ev_put] <;> rfl)⟩
  obtain ⟨rfl, tm, h', rfl, sM, t4, t5, t6, t7, t9, t14, t16, t15⟩ := hx
  simp -implicitDefEqProofs (maxSteps := 999999) (disch := first | with_reducible rfl | omega | (simp only [nA, nS, nD] <;> omega) | fail) only [go_sem, t4, t5, t6, t7, t9, t14, t16, t15]
  refine PBd_join (R := fun x s => x = .nrm ∧ ∃ tm h' X Y Z b17, s = ⟨tm, h', []⟩ ∧ h7.Sub h' ∧ h'.get b17 = some (.cells .rw [X, Y, Z]) ∧ TbIs h' (.agg [X, Y, Z]) (addR t a) ∧ (Opd.t 4).ev tm = .ptr h.next 0 ∧ (Opd.t 5).ev tm = .ptr (h.next + 1) 0 ∧ (Opd.t 6).ev tm = .ptr (h.next + 1 + 1) 0 ∧ (Opd.t 7).ev tm = .ptr (h.next + 1 + 1 + 1) 0 ∧ (Opd.t 9).ev tm = .ptr h6.next 0 ∧ (Opd.t 14).ev tm = .int .i64 (seesE t p r a b) ∧ (Opd.t 16).ev tm = .int .i64 (seesR t p r a b) ∧ (Opd.t 15).ev tm = .int .i64 (addE t a) ∧ (Opd.t 17).ev tm = .ptr b17 0) ?_ fun x s hx => ?_
  · have s9' := (H.Sub.refl sM.wf).add (.cells .rw [.nils, .nils, .nils])
    have g17 : (h'.add (.cells .rw [.nils, .nils, .nils])).get h'.next = some (.cells .rw [.nils, .nils, .nils]) := by simp -implicitDefEqProofs (maxSteps := 999999) (disch := first | with_reducible rfl | omega | (simp only [nA, nS, nD] <;> omega) | fail) only [go_sem]
    have sM9 := sM.trans s9'
    by_cases c : addE t a = 0
    case neg =>
      simp -implicitDefEqProofs (maxSteps := 999999) (disch := first | with_reducible rfl | omega | (simp only [nA, nS, nD] <;> omega) | fail) only [go_sem, c]
      exact ⟨_, _, .nils, .nils, .nils, h'.next, rfl, sM9, g17, by unfold addR; rw [if_neg c]; exact (TbOwn.nil (H.Sub.refl s9'.wf)).is (by simp), (by simp [ev_c, ev_put, t4] <;> rfl), (by simp [ev_c, ev_put, t5] <;> rfl), (by simp [ev_c, ev_put, t6] <;> rfl), (by simp [ev_c, ev_put, t7] <;> rfl), (by simp [ev_c, ev_put, t9] <;> rfl), (by simp [ev_c, ev_put, t14] <;> rfl), (by simp [ev_c, ev_put, t16] <;> rfl), (by simp [ev_c, ev_put, t15] <;> rfl), (by simp [ev_c, ev_put] <;> rfl)⟩
    have er : addR t a = ⟨t.eyes, t.lights, t.pieces ++ [a]⟩ := by unfold addR; rw [if_pos c]
    have s3M := s37.trans sM9
    have ce : decide (addE t a = 0) = true := decide_eq_true c
    simp -implicitDefEqProofs (maxSteps := 999999) (disch := first | with_reducible rfl | omega | (simp only [nA, nS, nD] <;> omega) | fail) only [go_sem, t4, t5, t6, t7, t9, t14, t16, t15, ce, s3M.cells q3]
    refine own_ev s9'.wf (ht0.mono (s3.trans s3M)) hsm _ fun u hA sA hu2 => ?_
    have huA := hu2.is hsm
    obtain ⟨w1, w2, w3, rfl, k1, k2, k3, ⟨kk1, kk2, kk3⟩, g1, g2, g3⟩ := hu2
    have gA := sA.get g17
    have lA := s9'.next
    have l9' := H.next_add h' (.cells .rw [.nils, .nils, .nils])

    have lA9 := sA.next
    have kB := Keeps.set hA h'.next (.cells .rw [.sl w1 0 t.eyes.length (.fix t.eyes.length), .sl w2 0 t.lights.length (.fix t.lights.length), .sl w3 0 t.pieces.length (.fix t.pieces.length)])
    have sMA := sM9.trans sA
    have l7' := sM.next
    have sB : h7.Sub (hA.set h'.next (.cells .rw [.sl w1 0 t.eyes.length (.fix t.eyes.length), .sl w2 0 t.lights.length (.fix t.lights.length), .sl w3 0 t.pieces.length (.fix t.pieces.length)])) := sMA.set (b := h'.next) (by omega) (by omega) s7.wf _
    have gB : (hA.set h'.next (.cells .rw [.sl w1 0 t.eyes.length (.fix t.eyes.length), .sl w2 0 t.lights.length (.fix t.lights.length), .sl w3 0 t.pieces.length (.fix t.pieces.length)])).get h'.next = some (.cells .rw [.sl w1 0 t.eyes.length (.fix t.eyes.length), .sl w2 0 t.lights.length (.fix t.lights.length), .sl w3 0 t.pieces.length (.fix t.pieces.length)]) := get_set_same rfl
    have oA : OwnC (h'.add (.cells .rw [.nils, .nils, .nils])) hA (.sl w3 0 t.pieces.length (.fix t.pieces.length)) 3 (t.pieces.map encD) :=
      ⟨sA, by simp [encD], .inr (.inr ⟨w3, t.pieces.length, [], by simp, k3.1, k3.2, by rw [List.append_nil]; exact g3, by simp, by simp⟩)⟩
    have oB := (oA.base s9').keep kB ((s9'.trans sA).set (b := h'.next) (Nat.le_refl _) (by omega) sM.wf _) fun b ⟨_, _, _, e⟩ hc => by cases e; omega
    have w1B : (hA.set h'.next (.cells .rw [.sl w1 0 t.eyes.length (.fix t.eyes.length), .sl w2 0 t.lights.length (.fix t.lights.length), .sl w3 0 t.pieces.length (.fix t.pieces.length)])).get w1 = some (.cells .rw (t.eyes.map encE).flatten) := by rw [get_set_other (by omega)]; exact g1
    have w2B : (hA.set h'.next (.cells .rw [.sl w1 0 t.eyes.length (.fix t.eyes.length), .sl w2 0 t.lights.length (.fix t.lights.length), .sl w3 0 t.pieces.length (.fix t.pieces.length)])).get w2 = some (.cells .rw (t.lights.map encD).flatten) := by rw [get_set_other (by omega)]; exact g2
    have lB : (hA.set h'.next (.cells .rw [.sl w1 0 t.eyes.length (.fix t.eyes.length), .sl w2 0 t.lights.length (.fix t.lights.length), .sl w3 0 t.pieces.length (.fix t.pieces.length)])).next = hA.next := H.next_set _ _ _
    simp -implicitDefEqProofs (maxSteps := 999999) (disch := first | with_reducible rfl | omega | (simp only [nA, nS, nD] <;> omega) | fail) only [go_sem, t4, t5, t6, t7, t9, t14, t16, t15, gA]
    generalize hA.set h'.next (.cells .rw [.sl w1 0 t.eyes.length (.fix t.eyes.length), .sl w2 0 t.lights.length (.fix t.lights.length), .sl w3 0 t.pieces.length (.fix t.pieces.length)]) = hB at sB gB oB w1B w2B lB ⊢
    have qa := sB.cells ((s37.cells q4))
    have sC := (H.Sub.refl sB.wf).add (.cells .rw [.int .i64 a.x, .int .i64 a.y, .int .i64 a.z])
    have own1 : SlAt (hB.add (.cells .rw [.int .i64 a.x, .int .i64 a.y, .int .i64 a.z])) (.sl hB.next 0 1 (.fix 1)) 3 [[.int .i64 a.x, .int .i64 a.y, .int .i64 a.z]] := SlAt.new _ rfl rfl (by simp) (by simp) (by simp)
    simp -implicitDefEqProofs (maxSteps := 999999) (disch := first | with_reducible rfl | omega | (simp only [nA, nS, nD] <;> omega) | fail) only [go_sem, t4, t5, t6, t7, t9, t14, t16, t15, cells_of gB, qa, evQ_ld]
    have hs3 := hsm.2.2
    refine (oB.mono sC).app1 (by_ := 24) (r := encD a) sM.wf rfl (by omega) own1 rfl (by simp only [List.length_map]; omega) (by simp only [List.length_map]; omega) fun Z hD oD hZ kD => ?_
    have zo : ∀ b, blkOf (.sl w3 0 t.pieces.length (.fix t.pieces.length)) b → b = w3 := fun b ⟨_, _, _, e⟩ => by cases e; rfl
    have lC := H.next_add hB (.cells .rw [.int .i64 a.x, .int .i64 a.y, .int .i64 a.z])
    have gD := kD.2 _ _ (sC.get gB) (fun hb => by have := zo _ hb; omega)
    have gD1 := kD.2 _ _ (sC.get w1B) (fun hb => by have := zo _ hb; omega)
    have gD2 := kD.2 _ _ (sC.get w2B) (fun hb => by have := zo _ hb; omega)
    have lD := oD.1.next
    have lkD := kD.1
    have z1 := oD.one
    have sD : h7.Sub hD := sM.trans oD.1
    have kF := Keeps.set hD h'.next (.cells .rw [.sl w1 0 t.eyes.length (.fix t.eyes.length), .sl w2 0 t.lights.length (.fix t.lights.length), Z])
    have sF := sD.set (b := h'.next) (by omega) (by omega) s7.wf (.cells .rw [.sl w1 0 t.eyes.length (.fix t.eyes.length), .sl w2 0 t.lights.length (.fix t.lights.length), Z])
    have fZ := oD.keep kF (oD.1.set (b := h'.next) (Nat.le_refl _) (by omega) sM.wf _) fun b hb hc => by
      subst hc
      rcases hZ _ hb with h | h
      · have := zo _ h; omega
      · omega
    have pm : (t.pieces ++ [a]).map encD = t.pieces.map encD ++ [encD a] := by simp
    simp -implicitDefEqProofs (maxSteps := 999999) (disch := first | with_reducible rfl | omega | (simp only [nA, nS, nD] <;> omega) | fail) only [go_sem, t4, t5, t6, t7, t9, t14, t16, t15, cells_of gD, gD, z1, cells_one z1]
    exact ⟨_, _, _, _, _, h'.next, rfl, sF, get_set_same rfl, by
      rw [er]
      exact ⟨_, _, _, rfl, SlAt.full (by simp) (by rw [get_set_other (by omega)]; exact gD1) (by simp [encE]) (by simp; have := hsm.1; omega), SlAt.full (by simp) (by rw [get_set_other (by omega)]; exact gD2) (by simp [encD]) (by simp; have := hsm.2.1; omega), by rw [pm]; exact fZ.sl (by simp only [List.length_append, List.length_map, List.length_singleton]; omega)⟩, (by simp [ev_c, ev_put, t4] <;> rfl), (by simp [ev_c, ev_put, t5] <;> rfl), (by simp [ev_c, ev_put, t6] <;> rfl), (by simp [ev_c, ev_put, t7] <;> rfl), (by simp [ev_c, ev_put, t9] <;> rfl), (by simp [ev_c, ev_put, t14] <;> rfl), (by simp [ev_c, ev_put, t16] <;> rfl), (by simp [ev_c, ev_put, t15] <;> rfl), (by simp [ev_c, ev_put] <;> rfl)⟩
  obtain ⟨rfl, tm, h', X, Y, Z, b17, rfl, sM, g17, hT, t4, t5, t6, t7, t9, t14, t16, t15, t17⟩ := hx
  have sX := s56.trans (s67.trans sM)
  have s3M := s37.trans sM
  have se := Sees_ev (h := h') sM.wf (hu0.mono sX) p r a b
  simp only [encD] at se
  simp -implicitDefEqProofs (maxSteps := 999999) (disch := first | with_reducible rfl | omega | (simp only [nA, nS, nD] <;> omega) | fail) only [go_sem, t4, t5, t6, t7, t9, t14, t16, t15, t17, sM.cells c13, s3M.cells qk, s3M.cells q4, s3M.cells q5]
  refine se _ fun hA sA => ?_
  have ad := Add_ev (h := hA) sA.wf (hu0.mono (sX.trans sA)) a
  simp only [encD] at ad
  simp -implicitDefEqProofs (maxSteps := 999999) (disch := first | with_reducible rfl | omega | (simp only [nA, nS, nD] <;> omega) | fail) only [go_sem, t4, t5, t6, t7, t9, t14, t16, t15, t17, (sM.trans sA).cells c13, (s3M.trans sA).cells q4]
  refine ad _ fun X' Y' Z' hB oT => ?_
  have hsz : (addR t a).eyes.length ≤ 1000 ∧ (addR t a).lights.length ≤ 1000 ∧ (addR t a).pieces.length ≤ 1000 := by
    simp only [greatT, decide_eq_false_iff_not] at hg
    unfold addR
    split
    · simp only [List.length_append, List.length_singleton]; omega
    · simp
  have sB := oT.x.1
  have x1 := oT.x.one
  have y1 := oT.y.one
  have z1 := oT.z.one
  have sAB := sA.trans sB
  have sC := (H.Sub.refl sB.wf).add (.cells .rw [X', Y', Z'])
  have gC : (hB.add (.cells .rw [X', Y', Z'])).get hB.next = some (.cells .rw [X', Y', Z']) := by simp -implicitDefEqProofs (maxSteps := 999999) (disch := first | with_reducible rfl | omega | (simp only [nA, nS, nD] <;> omega) | fail) only [go_sem]
  have iC := (oT.is hsz).mono sC
  have dn : decide (seesE t p r a b ≠ seesE t p r a b) = false := nn _
  simp -implicitDefEqProofs (maxSteps := 999999) (disch := first | with_reducible rfl | omega | (simp only [nA, nS, nD] <;> omega) | fail) only [go_sem, t4, t5, t6, t7, t9, t14, t16, t15, t17, x1, y1, z1, cells_one x1, cells_one y1, cells_one z1, nn, cells_of gC, (sAB.trans sC).cells (cells_of g17)]
  refine same_ev sC.wf iC (hT.mono (sAB.trans sC)) _ fun hD sD => ?_
  rw [decide_eq_true rfl]
  have gD := sD.get gC
  have oX := (oT.x.mono sC).mono sD
  have oY := (oT.y.mono sC).mono sD
  have oZ := (oT.z.mono sC).mono sD
  have lX : ∀ b, blkOf X' b → b < hB.next := fun b hb => (oT.x.blk hb).2.1
  have lY : ∀ b, blkOf Y' b → b < hB.next := fun b hb => (oT.y.blk hb).2.1
  simp -implicitDefEqProofs (maxSteps := 999999) (disch := first | with_reducible rfl | omega | (simp only [nA, nS, nD] <;> omega) | fail) only [go_sem, t4, t5, t6, t7, t9, t14, t16, t15, t17, Bool.not_true, cells_of gD]
  refine oX.clr sA.wf rfl rfl fun hE sE kE => ?_
  have gE := kE.2 _ _ gD fun hb => by have := lX _ hb; omega
  have oYE := oY.keep kE sE fun b hb hc => oT.xy b hc hb
  have oZE := oZ.keep kE sE fun b hb hc => oT.xz b hc hb
  simp -implicitDefEqProofs (maxSteps := 999999) (disch := first | with_reducible rfl | omega | (simp only [nA, nS, nD] <;> omega) | fail) only [go_sem, t4, t5, t6, t7, t9, t14, t16, t15, t17, cells_of gE]
  refine oYE.clr sA.wf rfl rfl fun hF sF kF => ?_
  have gF := kF.2 _ _ gE fun hb => by have := lY _ hb; omega
  have oZF := oZE.keep kF sF fun b hb hc => oT.yz b hc hb
  simp -implicitDefEqProofs (maxSteps := 999999) (disch := first | with_reducible rfl | omega | (simp only [nA, nS, nD] <;> omega) | fail) only [go_sem, t4, t5, t6, t7, t9, t14, t16, t15, t17, cells_of gF]
  refine oZF.clr sA.wf rfl rfl fun hG sG kG => ?_
  have sAG := sA.trans sG
  have sMG := sM.trans sAG
  simp -implicitDefEqProofs (maxSteps := 999999) (disch := first | with_reducible rfl | omega | (simp only [nA, nS, nD] <;> omega) | fail) only [go_sem, t4, t5, t6, t7, t9, t14, t16, t15, t17, sMG.cells c13, (s3M.trans sAG).cells q3]
  refine same_ev sG.wf (hu0.mono (sX.trans sAG)) (ht0.mono (s3.trans (s3M.trans sAG))) _ fun hH sH => ?_
  rw [decide_eq_true rfl]
  simp -implicitDefEqProofs (maxSteps := 999999) (disch := first | with_reducible rfl | omega | (simp only [nA, nS, nD] <;> omega) | fail) only [go_sem, awake_eq]
end Go.Ab.Try
