/- The law SilkGrows, on our machine. Copies of a mill; one weighing more; a lot that is split. -/
import Derived.Test.YthoghcpemmfebaaG2
import Derived.Test.YthoghcpemmfebaaAc4
set_option linter.unusedSimpArgs false
set_option linter.unusedVariables false
namespace Go.Ab
theorem a_msl_nm {h : H} {by_ n m : Nat} {z : List V} (h0 : n ≤ m) (h1 : m * by_ ≤ 1099511627776) (h2 : m ≤ 1099511627776) :
    a_msl h by_ z (.int .i64 (n : Int)) (.int .i64 (m : Int)) = some (.sl h.next 0 n (.fix m), h.add (.cells .rw (repN m z))) := by
  have e1 : Nat.ble (m * by_) 1099511627776 = true := by simpa using h1
  have e2 : Nat.ble m 1099511627776 = true := by simpa using h2
  have e3 : Nat.ble n m = true := by simpa using h0
  simp only [a_msl, nat_cst, e1, e2, e3, og_true, lf_eq]
/-- All rows of a slice, copied into one that has just been made. -/
theorem e_cpy_new {h0 h : H} {y : V} {sz b c n : Nat} {rows : List (List V)} {z : List V} {Q : V → H → Prop} (hs : h0.Sub h) (hw0 : h0.wf) (hy : SlAt h y sz rows) (hn : n = rows.length) (hb : h.get b = some (.cells .rw (repN c z))) (l1 : h0.next ≤ b) (l2 : b < h.next) (hz : z.length = sz) (hc : rows.length ≤ c)
    (ho : allOne rows.flatten = true) (q : ∀ h', OwnC h0 h' (.sl b 0 n (.fix c)) sz rows → Keeps (fun x => x = b) h h' → h'.next = h.next → Q (.int .i64 (n : Int)) h') : P2 (e_cpy h sz (.sl b 0 n (.fix c)) y) Q := by
  subst hn
  obtain ⟨e1, e2⟩ := hy.elems
  have hl := flatten_len hy.1
  have hr := repN_len z c
  rw [hz] at hr
  have hle : rows.length * sz ≤ c * sz := Nat.mul_le_mul_right sz hc
  have hble : Nat.ble rows.length rows.length = true := by simp
  have ht : takeN (rows.length * sz) rows.flatten = some rows.flatten := takeN_eq.2 ⟨by rw [← hl, List.take_length], by omega⟩
  have hlen : rows.length * sz + ((repN c z).drop (rows.length * sz)).length = c * sz := by rw [List.length_drop, hr]; omega
  simp only [e_cpy, lenV_sl, e1, e2, hble, ht, cpyTo]
  cases hf : rows.flatten with
  | nil =>
    rw [hf] at hl
    simp only [List.length_nil] at hl
    simp only [H.put, withV_some, P2_some]
    refine q h ⟨hs, hy.1, .inr (.inr ⟨b, c, _, rfl, l1, l2, ?_, hlen, hc⟩)⟩ (Keeps.refl _ h) rfl
    rw [hb, hf, ← hl]; simp
  | cons v vs =>
    rw [hf] at ho hl
    have hp : putN 0 (v :: vs) (repN c z) = some (v :: vs ++ (repN c z).drop (rows.length * sz)) := by
      rw [putN_0]
      exact over_eq.2 ⟨by rw [hl], by rw [hl, hr]; exact hle⟩
    rw [H.put_rw ho hb hp, withV_some, P2_some]
    refine q _ ⟨hs.set l1 l2 hw0 _, hy.1, .inr (.inr ⟨b, c, _, rfl, l1, by rw [H.next_set]; exact l2, ?_, hlen, hc⟩)⟩ (Keeps.set h b _) (H.next_set _ _ _)
    rw [get_set_same rfl, hf]
end Go.Ab
namespace Go.Ab.Try
theorem cloneLot_ev {h : H} {x : V} {l : List Lt} (hw : h.wf) (hx : SlAt h x 2 (l.map encL)) (hl : l.length ≤ 1000000) (Q : V → H → Prop) (q : ∀ v h', OwnC h h' v 2 (l.map encL) → Q v h') : Ev fnG fastA (.fn 145 [] []) [x] h Q := by
  refine Ev_body (fd := c145) rfl rfl rfl ?_
  have s1 : h.Sub (h.add (.cells .rw [])) := (by repeat (first | assumption | exact H.Sub.refl (by assumption) | refine H.Sub.add ?_ _ | refine H.Sub.set ?_ (by first | omega | (simp only [H.next_add, H.next_set, H.next_del] <;> omega)) (by first | omega | (simp only [H.next_add, H.next_set, H.next_del] <;> omega)) (by assumption) _))
  have hx1 := (hx.mono s1).elems
  have ho := allOne_flat (enc := encL) (fun _ => rfl) l
  rcases hx.2.2 with ⟨rfl, e⟩ | ⟨b, o, c, cs, rfl, _⟩
  · simp (maxSteps := 1000000) (implicitDefEqProofs := false) (disch := (first | with_reducible rfl | omega | (simp only [H.next_add, H.next_set, H.next_del]; done) | (simp only [H.next_add, H.next_set, H.next_del]; omega) | fail)) only [c145, go_sem, ↓reduceIte, Nat.reduceEqDiff, Nat.reduceAdd, Nat.reduceSub, Nat.reduceMul, reduceCtorEq, Nat.reduceLeDiff]
    exact q _ _ (by rw [e]; exact (OwnSl.nil (H.Sub.refl hw) 2).c)
  · simp (maxSteps := 1000000) (implicitDefEqProofs := false) (disch := (first | with_reducible rfl | omega | (simp only [H.next_add, H.next_set, H.next_del]; done) | (simp only [H.next_add, H.next_set, H.next_del]; omega) | fail)) only [c145, go_sem, ↓reduceIte, Nat.reduceEqDiff, Nat.reduceAdd, Nat.reduceSub, Nat.reduceMul, reduceCtorEq, Nat.reduceLeDiff]
    rw [e_app_eq, hx1.1, hx1.2]
    simp only [ob_some]
    cases hn : (l.map encL).length with
    | zero =>
      have e : l.map encL = [] := List.length_eq_zero_iff.1 hn
      simp (maxSteps := 1000000) (implicitDefEqProofs := false) (disch := (first | with_reducible rfl | omega | (simp only [H.next_add, H.next_set, H.next_del]; done) | (simp only [H.next_add, H.next_set, H.next_del]; omega) | fail)) only [go_sem, ↓reduceIte, Nat.reduceEqDiff, Nat.reduceAdd, Nat.reduceSub, Nat.reduceMul, reduceCtorEq, Nat.reduceLeDiff, e_app_fix0, Nat.ble_eq, Nat.le_refl, og_true]
      have : Nat.ble 0 0 = true := rfl
      simp (maxSteps := 1000000) (implicitDefEqProofs := false) (disch := (first | with_reducible rfl | omega | (simp only [H.next_add, H.next_set, H.next_del]; done) | (simp only [H.next_add, H.next_set, H.next_del]; omega) | fail)) only [this, go_sem, ↓reduceIte, Nat.reduceEqDiff, Nat.reduceAdd, Nat.reduceSub, Nat.reduceMul, reduceCtorEq, Nat.reduceLeDiff]
      exact q _ _ (by rw [e]; exact ⟨s1, by simp, .inr (.inr ⟨h.next, 0, [], rfl, Nat.le_refl _, by rw [H.next_add]; omega, get_add_new rfl, rfl, Nat.le_refl _⟩)⟩)
    | succ k =>
      rw [e_app_full (by omega) (elems_0 _ _ _ _ _) (by simp at hn; omega) (by simp at hn; omega), grown_eq]
      simp (maxSteps := 1000000) (implicitDefEqProofs := false) (disch := (first | with_reducible rfl | omega | (simp only [H.next_add, H.next_set, H.next_del]; done) | (simp only [H.next_add, H.next_set, H.next_del]; omega) | fail)) only [go_sem, ↓reduceIte, Nat.reduceEqDiff, Nat.reduceAdd, Nat.reduceSub, Nat.reduceMul, reduceCtorEq, Nat.reduceLeDiff]
      refine q _ _ ⟨s1.add _, hx.1, .inr (.inl ⟨h.next + 1, by rw [hn], by omega, by simp only [H.next_add]; omega, by rw [get_add_new (by rw [H.next_add])]⟩)⟩
/-- copied -/
theorem copied_ev {h : H} {v : V} {m : Ml} (hw : h.wf) (hm : MlIs h v m) (hl : m.lots.length ≤ 1000 ∧ m.wgs.length ≤ 1000) (Q : V → H → Prop) (q : ∀ u h', h.Sub h' → MlOwn h h' u m → Q u h') : Ev fnG fastA (.fn 110 [] []) [v] h Q := by
  obtain ⟨L, W, rfl, aL, aW⟩ := hm
  refine Ev_body (fd := c110) rfl rfl rfl ?_
  have hle := aW.lenE
  have s2 : h.Sub ((h.add (.cells .rw [.int .i64 m.errs, L, W])).add (.cells .rw [.int .i64 0, .nils, .nils])) := (by repeat (first | assumption | exact H.Sub.refl (by assumption) | refine H.Sub.add ?_ _ | refine H.Sub.set ?_ (by first | omega | (simp only [H.next_add, H.next_set, H.next_del] <;> omega)) (by first | omega | (simp only [H.next_add, H.next_set, H.next_del] <;> omega)) (by assumption) _))
  have w2 := s2.wf
  have s3 := s2.add (.cells .rw (repN (m.wgs.length + 1) [.int .i64 0, .int .i64 0, .int .i64 0, .int .i64 0]))
  have e1 : wr .i64 ((m.wgs.length : Int) + 1) = ((m.wgs.length + 1 : Nat) : Int) := wr_succ (by omega)
  simp (maxSteps := 1000000) (implicitDefEqProofs := false) (disch := (first | with_reducible rfl | omega | (simp only [H.next_add, H.next_set, H.next_del]; done) | (simp only [H.next_add, H.next_set, H.next_del]; omega) | fail)) only [c110, go_sem, ↓reduceIte, Nat.reduceEqDiff, Nat.reduceAdd, Nat.reduceSub, Nat.reduceMul, reduceCtorEq, Nat.reduceLeDiff, hle, e1, a_msl_nm]
  refine e_cpy_new s3 hw (aW.mono s3) (by simp) (get_add_new (by simp only [H.next_add])) (by omega) (by simp only [H.next_add]; omega) rfl (by simp) (allOne_flat (fun _ => rfl) _) fun h4 o4 k4 n4 => ?_
  simp only [H.next_add] at n4
  have g4a : h4.get h.next = some (.cells .rw [.int .i64 m.errs, L, W]) := k4.2 _ _ (by simp (maxSteps := 1000000) (implicitDefEqProofs := false) (disch := (first | with_reducible rfl | omega | (simp only [H.next_add, H.next_set, H.next_del]; done) | (simp only [H.next_add, H.next_set, H.next_del]; omega) | fail)) only [go_sem, ↓reduceIte, Nat.reduceEqDiff, Nat.reduceAdd, Nat.reduceSub, Nat.reduceMul, reduceCtorEq, Nat.reduceLeDiff]) (by omega)
  have g4b : h4.get (h.next + 1) = some (.cells .rw [.int .i64 0, .nils, .nils]) := k4.2 _ _ (by simp (maxSteps := 1000000) (implicitDefEqProofs := false) (disch := (first | with_reducible rfl | omega | (simp only [H.next_add, H.next_set, H.next_del]; done) | (simp only [H.next_add, H.next_set, H.next_del]; omega) | fail)) only [go_sem, ↓reduceIte, Nat.reduceEqDiff, Nat.reduceAdd, Nat.reduceSub, Nat.reduceMul, reduceCtorEq, Nat.reduceLeDiff]) (by omega)
  have s4 := o4.1
  have s23 := (H.Sub.refl w2).add (.cells .rw (repN (m.wgs.length + 1) [.int .i64 0, .int .i64 0, .int .i64 0, .int .i64 0]))
  simp (maxSteps := 1000000) (implicitDefEqProofs := false) (disch := (first | with_reducible rfl | omega | (simp only [H.next_add, H.next_set, H.next_del]; done) | (simp only [H.next_add, H.next_set, H.next_del]; omega) | fail)) only [go_sem, ↓reduceIte, Nat.reduceEqDiff, Nat.reduceAdd, Nat.reduceSub, Nat.reduceMul, reduceCtorEq, Nat.reduceLeDiff, cells_of g4a, g4b]
  refine cloneLot_ev s4.wf (aL.mono s4) (by omega) _ fun x h5 o5 => ?_
  have s45 := o5.1
  have g5a := s45.get g4a
  have g5b := s45.get g4b
  have l5 := s45.next
  have hx1 := o5.one
  have o5' := o5.base s4
  have s6 : h.Sub (h5.set (h.next + 1) (.cells .rw [.int .i64 m.errs, x, .sl (h.next + 1 + 1) 0 m.wgs.length (.fix (m.wgs.length + 1))])) := (s4.trans s45).set (by omega) (by omega) hw _
  have k6 := Keeps.set h5 (h.next + 1) (.cells .rw [.int .i64 m.errs, x, .sl (h.next + 1 + 1) 0 m.wgs.length (.fix (m.wgs.length + 1))])
  have nx : ∀ b, blkOf x b → h4.next ≤ b := fun b hb => (o5.blk hb).1
  have hx2 := cells_one hx1
  simp (maxSteps := 1000000) (implicitDefEqProofs := false) (disch := (first | with_reducible rfl | omega | (simp only [H.next_add, H.next_set, H.next_del]; done) | (simp only [H.next_add, H.next_set, H.next_del]; omega) | fail)) only [go_sem, ↓reduceIte, Nat.reduceEqDiff, Nat.reduceAdd, Nat.reduceSub, Nat.reduceMul, reduceCtorEq, Nat.reduceLeDiff, cells_of g4a, cells_of g5a, g5b, hx1, hx2]
  refine q _ _ s6 ⟨_, _, rfl, o5'.keep k6 s6 fun b hb e => ?_, (o4.mono s45).keep k6 s6 fun b hb e => ?_, fun b hb hb2 => ?_⟩
  · have := nx b hb; omega
  · obtain ⟨_, _, _, e'⟩ := hb; cases e'; omega
  · obtain ⟨_, _, _, e'⟩ := hb2; cases e'
    have := nx _ hb; omega
def Ml.empty : Ml := ⟨0, [], []⟩
def Ml.weighed (m : Ml) (w : Wg) : Ml := ⟨m.errs, m.lots, m.wgs ++ [w]⟩
def Ml.splitB (m : Ml) (lot : Int) (kinds : List Int) : Ml := ⟨m.errs, m.lots ++ kinds.map (fun k => ⟨lot, k⟩), m.wgs⟩
def weighE (m : Ml) (w : Wg) : Int := if check m ≠ 0 then check m else if (m.wgs.length : Int) = 10 then 9 else check (m.weighed w)
def weighM (m : Ml) (w : Wg) : Ml := if weighE m w = 0 then m.weighed w else Ml.empty
theorem MlOwn.empty {h0 h : H} (hs : h0.Sub h) : MlOwn h0 h (.agg [.int .i64 0, .nils, .nils]) Ml.empty := ⟨.nils, .nils, rfl, (OwnSl.nil hs 2).c, (OwnSl.nil hs 4).c, fun b hb => (by obtain ⟨_, _, _, e⟩ := hb; cases e)⟩
theorem MlOwn.keep {h0 h h' : H} {S : Nat → Prop} {v : V} {m : Ml} (a : MlOwn h0 h v m) (k : Keeps S h h') (hs : h0.Sub h') (n : ∀ b, S b → ∀ kd cs, h.get b ≠ some (.cells kd cs) ∨ b < h0.next) : MlOwn h0 h' v m := by
  obtain ⟨L, W, e, a1, a2, a3⟩ := a
  refine ⟨L, W, e, a1.keep k hs fun b hb hS => ?_, a2.keep k hs fun b hb hS => ?_, a3⟩
  · obtain ⟨l1, _, kd, cs, hg, _⟩ := a1.blk hb
    rcases n b hS kd cs with h | h
    · exact h hg
    · omega
  · obtain ⟨l1, _, kd, cs, hg, _⟩ := a2.blk hb
    rcases n b hS kd cs with h | h
    · exact h hg
    · omega
/-- Weigh -/
theorem Weigh_ev {h : H} {v : V} {m : Ml} {w : Wg} (hw : h.wf) (hm : MlIs h v m) (Q : V → H → Prop) (q : ∀ a h', MlOwn h h' a (weighM m w) → h.Sub h' → Q (.tup [a, .int .i64 (weighE m w)]) h') : Ev fnG fastA (.fn 50 [] []) [v, .agg (encW w)] h Q := by
  have hm0 := hm
  obtain ⟨L, W, rfl, aL, aW⟩ := hm
  refine Ev_body (fd := c50) rfl rfl rfl ?_
  have hle := aW.lenE
  have s3 : h.Sub (((h.add (.cells .rw [.int .i64 m.errs, L, W])).add (.cells .rw (encW w))).add (.cells .rw [.int .i64 0, .nils, .nils])) := (by repeat (first | assumption | exact H.Sub.refl (by assumption) | refine H.Sub.add ?_ _ | refine H.Sub.set ?_ (by first | omega | (simp only [H.next_add, H.next_set, H.next_del] <;> omega)) (by first | omega | (simp only [H.next_add, H.next_set, H.next_del] <;> omega)) (by assumption) _))
  simp (maxSteps := 1000000) (implicitDefEqProofs := false) (disch := (first | with_reducible rfl | omega | (simp only [H.next_add, H.next_set, H.next_del]; done) | (simp only [H.next_add, H.next_set, H.next_del]; omega) | fail)) only [c50, go_sem, ↓reduceIte, Nat.reduceEqDiff, Nat.reduceAdd, Nat.reduceSub, Nat.reduceMul, reduceCtorEq, Nat.reduceLeDiff, encW]
  refine (check_ev s3.wf (hm0.mono s3)).mono fun u h4 hu => ?_
  obtain ⟨rfl, s34⟩ := hu
  have l4 := s34.next
  simp only [H.next_add] at l4
  have s4 := s3.trans s34
  have g4a : h4.cells h.next = some [.int .i64 m.errs, L, W] := s34.cells (by simp (maxSteps := 1000000) (implicitDefEqProofs := false) (disch := (first | with_reducible rfl | omega | (simp only [H.next_add, H.next_set, H.next_del]; done) | (simp only [H.next_add, H.next_set, H.next_del]; omega) | fail)) only [go_sem, ↓reduceIte, Nat.reduceEqDiff, Nat.reduceAdd, Nat.reduceSub, Nat.reduceMul, reduceCtorEq, Nat.reduceLeDiff])
  have g4b : h4.cells (h.next + 1) = some (encW w) := s34.cells (by simp (maxSteps := 1000000) (implicitDefEqProofs := false) (disch := (first | with_reducible rfl | omega | (simp only [H.next_add, H.next_set, H.next_del]; done) | (simp only [H.next_add, H.next_set, H.next_del]; omega) | fail)) only [go_sem, ↓reduceIte, Nat.reduceEqDiff, Nat.reduceAdd, Nat.reduceSub, Nat.reduceMul, reduceCtorEq, Nat.reduceLeDiff])
  have g4c : h4.get (h.next + 1 + 1) = some (.cells .rw [.int .i64 0, .nils, .nils]) := s34.get (by simp (maxSteps := 1000000) (implicitDefEqProofs := false) (disch := (first | with_reducible rfl | omega | (simp only [H.next_add, H.next_set, H.next_del]; done) | (simp only [H.next_add, H.next_set, H.next_del]; omega) | fail)) only [go_sem, ↓reduceIte, Nat.reduceEqDiff, Nat.reduceAdd, Nat.reduceSub, Nat.reduceMul, reduceCtorEq, Nat.reduceLeDiff])
  by_cases c : check m = 0
  case neg =>
    have e1 : weighE m w = check m := by simp [weighE, c]
    have e2 : weighM m w = Ml.empty := by simp [weighM, e1, c]
    simp (maxSteps := 1000000) (implicitDefEqProofs := false) (disch := (first | with_reducible rfl | omega | (simp only [H.next_add, H.next_set, H.next_del]; done) | (simp only [H.next_add, H.next_set, H.next_del]; omega) | fail)) only [go_sem, ↓reduceIte, Nat.reduceEqDiff, Nat.reduceAdd, Nat.reduceSub, Nat.reduceMul, reduceCtorEq, Nat.reduceLeDiff, ne_eq, c, not_false_eq_true, g4c]
    have s5 : h.Sub (h4.set (h.next + 1 + 1) (.cells .rw [.int .i64 0, .nils, .nils])) := s4.set (by omega) (by omega) hw _
    have := q _ _ (e2 ▸ MlOwn.empty s5) s5
    rw [e1] at this; exact this
  by_cases c2 : (m.wgs.length : Int) = 10
  case pos =>
    have e1 : weighE m w = 9 := by simp [weighE, c, c2]
    have e2 : weighM m w = Ml.empty := by simp [weighM, e1]
    simp (maxSteps := 1000000) (implicitDefEqProofs := false) (disch := (first | with_reducible rfl | omega | (simp only [H.next_add, H.next_set, H.next_del]; done) | (simp only [H.next_add, H.next_set, H.next_del]; omega) | fail)) only [go_sem, ↓reduceIte, Nat.reduceEqDiff, Nat.reduceAdd, Nat.reduceSub, Nat.reduceMul, reduceCtorEq, Nat.reduceLeDiff, ne_eq, c, not_true_eq_false, g4a, g4c, hle, c2]
    have s5 : h.Sub (h4.set (h.next + 1 + 1) (.cells .rw [.int .i64 0, .nils, .nils])) := s4.set (by omega) (by omega) hw _
    have := q _ _ (e2 ▸ MlOwn.empty s5) s5
    rw [e1] at this; exact this
  have hg := good_of c
  have gl := hg.lots
  have gw := hg.wgs
  have e1 : weighE m w = check (m.weighed w) := by simp [weighE, c, c2]
  simp (maxSteps := 1000000) (implicitDefEqProofs := false) (disch := (first | with_reducible rfl | omega | (simp only [H.next_add, H.next_set, H.next_del]; done) | (simp only [H.next_add, H.next_set, H.next_del]; omega) | fail)) only [go_sem, ↓reduceIte, Nat.reduceEqDiff, Nat.reduceAdd, Nat.reduceSub, Nat.reduceMul, reduceCtorEq, Nat.reduceLeDiff, ne_eq, c, not_true_eq_false, g4a, hle, c2]
  refine copied_ev s4.wf (hm0.mono s4) (by omega) _ fun a h5 s45 o5 => ?_
  obtain ⟨X, Y, rfl, oX, oY, dXY⟩ := o5
  have l5 := s45.next
  have g5b := s45.cells g4b
  have g5c := s45.get g4c
  have s5 := s4.trans s45
  have g5c2 : h5.cells (h.next + 1 + 1) = some [.int .i64 0, .nils, .nils] := cells_of g5c
  simp (maxSteps := 1000000) (implicitDefEqProofs := false) (disch := (first | with_reducible rfl | omega | (simp only [H.next_add, H.next_set, H.next_del]; done) | (simp only [H.next_add, H.next_set, H.next_del]; omega) | fail)) only [go_sem, ↓reduceIte, Nat.reduceEqDiff, Nat.reduceAdd, Nat.reduceSub, Nat.reduceMul, reduceCtorEq, Nat.reduceLeDiff, oX.one, oY.one, cells_one oX.one, cells_one oY.one, g5b, encW]
  have s57 := ((H.Sub.refl s5.wf).add (.cells .rw [.int .i64 m.errs, X, Y])).add (.cells .rw (encW w))
  have lX : ∀ b, blkOf X b → h4.next ≤ b ∧ b < h5.next := fun b hb => ⟨(oX.blk hb).1, (oX.blk hb).2.1⟩
  have lY : ∀ b, blkOf Y b → h4.next ≤ b ∧ b < h5.next := fun b hb => ⟨(oY.blk hb).1, (oY.blk hb).2.1⟩
  refine ((oY.base s4).mono s57).app1 (r := encW w) hw rfl (by omega) (SlAt.new _ (by simp only [H.next_add]) rfl (by simp [encW]) (by simp [encW]) (by simp)) rfl (by simp; omega) (by simp; omega) fun Z h6 o6 dZ k6 => ?_
  have g6c := k6.2 _ _ (s57.get g5c) fun hb => by have := lY _ hb; omega
  have g6d : h6.get h5.next = some (.cells .rw [.int .i64 m.errs, X, Y]) := k6.2 _ _ (by simp (maxSteps := 1000000) (implicitDefEqProofs := false) (disch := (first | with_reducible rfl | omega | (simp only [H.next_add, H.next_set, H.next_del]; done) | (simp only [H.next_add, H.next_set, H.next_del]; omega) | fail)) only [go_sem, ↓reduceIte, Nat.reduceEqDiff, Nat.reduceAdd, Nat.reduceSub, Nat.reduceMul, reduceCtorEq, Nat.reduceLeDiff]) fun hb => by have := lY _ hb; omega
  have l6 := k6.1
  simp only [H.next_add] at l6
  have s6 := o6.1
  have s7 : h.Sub (h6.set h5.next (.cells .rw [.int .i64 m.errs, X, Z])) := s6.set (by have := s5.next; omega) (by omega) hw _
  have k7 := Keeps.set h6 h5.next (.cells .rw [.int .i64 m.errs, X, Z])
  have nZ : ∀ b, blkOf Z b → ¬ b = h5.next := fun b hb e => by
    rcases dZ b hb with h | h
    · have := lY b h; omega
    · simp only [H.next_add] at h; omega
  have oX7 := (((oX.base s4).mono s57).keep k6 o6.1 dXY).keep k7 s7 fun b hb e => by have := lX b hb; omega
  have oZ7 := o6.keep k7 s7 nZ
  have g7c : (h6.set h5.next (.cells .rw [.int .i64 m.errs, X, Z])).get (h.next + 1 + 1) = some (.cells .rw [.int .i64 0, .nils, .nils]) := by rw [get_set_other (by omega)]; exact g6c
  have g7d : (h6.set h5.next (.cells .rw [.int .i64 m.errs, X, Z])).get h5.next = some (.cells .rw [.int .i64 m.errs, X, Z]) := get_set_same rfl
  have dXZ : ∀ b, blkOf X b → ¬ blkOf Z b := fun b hb hz => by
    rcases dZ b hz with h | h
    · exact dXY b hb h
    · have := lX b hb; simp only [H.next_add] at h; omega
  have l7 : (h6.set h5.next (.cells .rw [.int .i64 m.errs, X, Z])).next = h6.next := H.next_set _ _ _
  have s56 := l6
  simp (maxSteps := 1000000) (implicitDefEqProofs := false) (disch := (first | with_reducible rfl | omega | (simp only [H.next_add, H.next_set, H.next_del]; done) | (simp only [H.next_add, H.next_set, H.next_del]; omega) | fail)) only [go_sem, ↓reduceIte, Nat.reduceEqDiff, Nat.reduceAdd, Nat.reduceSub, Nat.reduceMul, reduceCtorEq, Nat.reduceLeDiff, cells_of g6d, g6d, o6.one, cells_one o6.one]
  generalize h6.set h5.next (.cells .rw [.int .i64 m.errs, X, Z]) = h7 at s7 k7 oX7 oZ7 g7c g7d l7 ⊢
  have own7 : MlOwn h h7 (.agg [.int .i64 m.errs, X, Z]) (m.weighed w) := ⟨X, Z, rfl, oX7, by simpa [Ml.weighed] using oZ7, dXZ⟩
  refine (check_ev s7.wf (own7.is (by simp [Ml.weighed]; omega))).mono fun u h8 hu => ?_
  obtain ⟨rfl, s78⟩ := hu
  have g8c := s78.get g7c
  have g8d := s78.get g7d
  have l8 := s78.next
  have l5' := s45.next
  by_cases c3 : check (m.weighed w) = 0
  · have e2 : weighM m w = m.weighed w := by simp [weighM, e1, c3]
    simp (maxSteps := 1000000) (implicitDefEqProofs := false) (disch := (first | with_reducible rfl | omega | (simp only [H.next_add, H.next_set, H.next_del]; done) | (simp only [H.next_add, H.next_set, H.next_del]; omega) | fail)) only [go_sem, ↓reduceIte, Nat.reduceEqDiff, Nat.reduceAdd, Nat.reduceSub, Nat.reduceMul, reduceCtorEq, Nat.reduceLeDiff, ne_eq, c3, not_true_eq_false, cells_of g8d, g8c, oX.one, o6.one, cells_one oX.one, cells_one o6.one]
    have s9 : h.Sub (h8.set (h.next + 1 + 1) (.cells .rw [.int .i64 m.errs, X, Z])) := (s7.trans s78).set (by omega) (by omega) hw _
    have k9 := Keeps.set h8 (h.next + 1 + 1) (.cells .rw [.int .i64 m.errs, X, Z])
    have o8 := own7.mono s78
    have o9 : MlOwn h (h8.set (h.next + 1 + 1) (.cells .rw [.int .i64 m.errs, X, Z])) (.agg [.int .i64 m.errs, X, Z]) (weighM m w) := by
      rw [e2]
      refine ⟨X, Z, rfl, (oX7.mono s78).keep k9 s9 (fun b hb e => by have := lX b hb; omega), ?_, dXZ⟩
      have := (oZ7.mono s78).keep k9 s9 (fun b hb e => by
        rcases dZ b hb with h | h
        · have := lY b h; omega
        · simp only [H.next_add] at h; omega)
      simpa [Ml.weighed] using this
    have := q _ _ o9 s9
    rw [e1, c3] at this; exact this
  · have e2 : weighM m w = Ml.empty := by simp [weighM, e1, c3]
    simp (maxSteps := 1000000) (implicitDefEqProofs := false) (disch := (first | with_reducible rfl | omega | (simp only [H.next_add, H.next_set, H.next_del]; done) | (simp only [H.next_add, H.next_set, H.next_del]; omega) | fail)) only [go_sem, ↓reduceIte, Nat.reduceEqDiff, Nat.reduceAdd, Nat.reduceSub, Nat.reduceMul, reduceCtorEq, Nat.reduceLeDiff, ne_eq, c3, not_false_eq_true, g8c]
    have s9 : h.Sub (h8.set (h.next + 1 + 1) (.cells .rw [.int .i64 0, .nils, .nils])) := (s7.trans s78).set (by omega) (by omega) hw _
    have := q _ _ (e2 ▸ MlOwn.empty s9) s9
    rw [e1] at this; exact this
def splitE (m : Ml) (lot : Int) (kinds : List Int) : Int := if check m ≠ 0 then check m else if ¬ (0 ≤ lot ∧ lot ≤ (m.lots.length : Int) - 1) then 1 else if 0 < ((parts m lot).length : Int) then 5
  else if (kinds.length : Int) = 0 then 2 else if 12 < (m.lots.length : Int) + (kinds.length : Int) then 9 else if kinds.all allowedK = false then 3 else 0
def splitM (m : Ml) (lot : Int) (kinds : List Int) : Ml := if splitE m lot kinds = 0 then m.splitB lot kinds else Ml.empty
theorem allowed_pure (h : H) (k : Int) : PureA h (.fn 78 [] []) [.int .i64 k] (.bool (allowedK k)) := fun h1 hs => by
  rw [allowed_ev]; exact ⟨rfl, H.Sub.refl hs.wf⟩
theorem Split_ev {h : H} {v K : V} {m : Ml} {kinds : List Int} (hw : h.wf) (hm : MlIs h v m) (hk : SlAt h K 1 (kinds.map encI)) (hkl : kinds.length ≤ 1000) (lot : Int) (Q : V → H → Prop) (q : ∀ a h', MlOwn h h' a (splitM m lot kinds) → h.Sub h' → Q (.tup [a, .int .i64 (splitE m lot kinds)]) h') :
    Ev fnG fastA (.fn 53 [] []) [v, .int .i64 lot, K] h Q := by
  have hm0 := hm
  obtain ⟨L, W, rfl, aL, aW⟩ := hm
  refine Ev_body (fd := c53) rfl rfl rfl ?_
  have hle := aL.lenE
  have hlk := hk.lenE
  have s3 : h.Sub ((h.add (.cells .rw [.int .i64 m.errs, L, W])).add (.cells .rw [.int .i64 0, .nils, .nils])) := (by repeat (first | assumption | exact H.Sub.refl (by assumption) | refine H.Sub.add ?_ _ | refine H.Sub.set ?_ (by first | omega | (simp only [H.next_add, H.next_set, H.next_del] <;> omega)) (by first | omega | (simp only [H.next_add, H.next_set, H.next_del] <;> omega)) (by assumption) _))
  simp (maxSteps := 1000000) (implicitDefEqProofs := false) (disch := (first | with_reducible rfl | omega | (simp only [H.next_add, H.next_set, H.next_del]; done) | (simp only [H.next_add, H.next_set, H.next_del]; omega) | fail)) only [c53, go_sem, ↓reduceIte, Nat.reduceEqDiff, Nat.reduceAdd, Nat.reduceSub, Nat.reduceMul, reduceCtorEq, Nat.reduceLeDiff]
  refine (known_ev s3.wf (hm0.mono s3) lot).mono fun u h4 hu => ?_
  obtain ⟨s34, hu⟩ := hu
  have l4 := s34.next
  simp only [H.next_add] at l4
  have s4 := s3.trans s34
  have g4a : h4.cells h.next = some [.int .i64 m.errs, L, W] := s34.cells (by simp (maxSteps := 1000000) (implicitDefEqProofs := false) (disch := (first | with_reducible rfl | omega | (simp only [H.next_add, H.next_set, H.next_del]; done) | (simp only [H.next_add, H.next_set, H.next_del]; omega) | fail)) only [go_sem, ↓reduceIte, Nat.reduceEqDiff, Nat.reduceAdd, Nat.reduceSub, Nat.reduceMul, reduceCtorEq, Nat.reduceLeDiff])
  have g4c : h4.get (h.next + 1) = some (.cells .rw [.int .i64 0, .nils, .nils]) := s34.get (by simp (maxSteps := 1000000) (implicitDefEqProofs := false) (disch := (first | with_reducible rfl | omega | (simp only [H.next_add, H.next_set, H.next_del]; done) | (simp only [H.next_add, H.next_set, H.next_del]; omega) | fail)) only [go_sem, ↓reduceIte, Nat.reduceEqDiff, Nat.reduceAdd, Nat.reduceSub, Nat.reduceMul, reduceCtorEq, Nat.reduceLeDiff])
  have fin : ∀ h5 e, h.Sub h5 → h.next + 1 < h5.next → splitE m lot kinds = e → e ≠ 0 → Q (.tup [.agg [.int .i64 0, .nils, .nils], .int .i64 e]) (h5.set (h.next + 1) (.cells .rw [.int .i64 0, .nils, .nils])) := fun h5 e s l he hne => by
    have s5 : h.Sub (h5.set (h.next + 1) (.cells .rw [.int .i64 0, .nils, .nils])) := s.set (by omega) (by omega) hw _
    have e2 : splitM m lot kinds = Ml.empty := by simp [splitM, he, hne]
    have := q _ _ (e2 ▸ MlOwn.empty s5) s5
    rw [he] at this; exact this
  rcases hu with ⟨c, rfl⟩ | ⟨c, c2, rfl⟩ | ⟨c, c2, d, rfl, hd⟩
  · simp (maxSteps := 1000000) (implicitDefEqProofs := false) (disch := (first | with_reducible rfl | omega | (simp only [H.next_add, H.next_set, H.next_del]; done) | (simp only [H.next_add, H.next_set, H.next_del]; omega) | fail)) only [go_sem, ↓reduceIte, Nat.reduceEqDiff, Nat.reduceAdd, Nat.reduceSub, Nat.reduceMul, reduceCtorEq, Nat.reduceLeDiff, ne_eq, c, not_false_eq_true, g4c]
    exact fin _ _ s4 (by omega) (by simp [splitE, c]) c
  · simp (maxSteps := 1000000) (implicitDefEqProofs := false) (disch := (first | with_reducible rfl | omega | (simp only [H.next_add, H.next_set, H.next_del]; done) | (simp only [H.next_add, H.next_set, H.next_del]; omega) | fail)) only [go_sem, ↓reduceIte, Nat.reduceEqDiff, Nat.reduceAdd, Nat.reduceSub, Nat.reduceMul, reduceCtorEq, Nat.reduceLeDiff, ne_eq, Int.reduceEq, not_false_eq_true, g4c]
    exact fin _ _ s4 (by omega) (by simp only [splitE, c, c2, ne_eq, not_true_eq_false, not_false_eq_true, ↓reduceIte]) (by omega)
  have hg := good_of c
  have gl := hg.lots
  have gw := hg.wgs
  obtain ⟨pm, l, L', W', k1, k2, _, _, ap⟩ := id hd
  have hpl := (ap lot).lenE
  by_cases c3 : 0 < ((parts m lot).length : Int)
  · simp (maxSteps := 1000000) (implicitDefEqProofs := false) (disch := (first | with_reducible rfl | omega | (simp only [H.next_add, H.next_set, H.next_del]; done) | (simp only [H.next_add, H.next_set, H.next_del]; omega) | fail)) only [go_sem, ↓reduceIte, Nat.reduceEqDiff, Nat.reduceAdd, Nat.reduceSub, Nat.reduceMul, reduceCtorEq, Nat.reduceLeDiff, ne_eq, not_true_eq_false, cells_of k1, k2, hpl, c3, g4c]
    exact fin _ _ s4 (by omega) (by simp only [splitE, c, c2, c3, ne_eq, not_true_eq_false, not_false_eq_true, and_self, ↓reduceIte]) (by omega)
  by_cases c4 : (kinds.length : Int) = 0
  · simp (maxSteps := 1000000) (implicitDefEqProofs := false) (disch := (first | with_reducible rfl | omega | (simp only [H.next_add, H.next_set, H.next_del]; done) | (simp only [H.next_add, H.next_set, H.next_del]; omega) | fail)) only [go_sem, ↓reduceIte, Nat.reduceEqDiff, Nat.reduceAdd, Nat.reduceSub, Nat.reduceMul, reduceCtorEq, Nat.reduceLeDiff, ne_eq, not_true_eq_false, cells_of k1, k2, hpl, c3, g4c, hlk, c4]
    exact fin _ _ s4 (by omega) (by simp only [splitE, c, c2, c3, c4, ne_eq, not_true_eq_false, not_false_eq_true, and_self, ↓reduceIte]) (by omega)
  by_cases c5 : 12 < (m.lots.length : Int) + (kinds.length : Int)
  · simp (maxSteps := 1000000) (implicitDefEqProofs := false) (disch := (first | with_reducible rfl | omega | (simp only [H.next_add, H.next_set, H.next_del]; done) | (simp only [H.next_add, H.next_set, H.next_del]; omega) | fail)) only [go_sem, ↓reduceIte, Nat.reduceEqDiff, Nat.reduceAdd, Nat.reduceSub, Nat.reduceMul, reduceCtorEq, Nat.reduceLeDiff, ne_eq, not_true_eq_false, cells_of k1, k2, hpl, c3, g4c, g4a, hle, hlk, c4, wr_in, c5]
    exact fin _ _ s4 (by omega) (by simp only [splitE, c, c2, c3, c4, c5, ne_eq, not_true_eq_false, not_false_eq_true, and_self, ↓reduceIte]) (by omega)
  simp (maxSteps := 1000000) (implicitDefEqProofs := false) (disch := (first | with_reducible rfl | omega | (simp only [H.next_add, H.next_set, H.next_del]; done) | (simp only [H.next_add, H.next_set, H.next_del]; omega) | fail)) only [go_sem, ↓reduceIte, Nat.reduceEqDiff, Nat.reduceAdd, Nat.reduceSub, Nat.reduceMul, reduceCtorEq, Nat.reduceLeDiff, ne_eq, not_true_eq_false, cells_of k1, k2, hpl, c3, g4c, g4a, hle, hlk, c4, wr_in, c5]
  refine (everyKind_ev s4.wf (hk.mono s4) fun k _ => allowed_pure _ k).mono fun u h5 hu => ?_
  obtain ⟨rfl, s45⟩ := hu
  have l5 := s45.next
  have s5 := s4.trans s45
  have g5a := s45.cells g4a
  have g5c := s45.get g4c
  cases c6 : kinds.all allowedK
  · simp (maxSteps := 1000000) (implicitDefEqProofs := false) (disch := (first | with_reducible rfl | omega | (simp only [H.next_add, H.next_set, H.next_del]; done) | (simp only [H.next_add, H.next_set, H.next_del]; omega) | fail)) only [go_sem, ↓reduceIte, Nat.reduceEqDiff, Nat.reduceAdd, Nat.reduceSub, Nat.reduceMul, reduceCtorEq, Nat.reduceLeDiff, g5c]
    exact fin _ _ s5 (by omega) (by simp only [splitE, c, c2, c3, c4, c5, c6, ne_eq, not_true_eq_false, not_false_eq_true, and_self, ↓reduceIte]) (by omega)
  have he : splitE m lot kinds = 0 := by simp only [splitE, c, c2, c3, c4, c5, c6, ne_eq, not_true_eq_false, not_false_eq_true, and_self, ↓reduceIte, Bool.true_eq_false]
  have hM : splitM m lot kinds = m.splitB lot kinds := by simp [splitM, he]
  rw [he, hM] at q
  simp (maxSteps := 1000000) (implicitDefEqProofs := false) (disch := (first | with_reducible rfl | omega | (simp only [H.next_add, H.next_set, H.next_del]; done) | (simp only [H.next_add, H.next_set, H.next_del]; omega) | fail)) only [go_sem, ↓reduceIte, Nat.reduceEqDiff, Nat.reduceAdd, Nat.reduceSub, Nat.reduceMul, reduceCtorEq, Nat.reduceLeDiff, g5a]
  refine copied_ev s5.wf (hm0.mono s5) (by omega) _ fun a h6 s56 o6 => ?_
  obtain ⟨X, Y, rfl, oX, oY, dXY⟩ := o6
  have l6 := s56.next
  have g6c := s56.get g5c
  have s6 := s5.trans s56
  simp (maxSteps := 1000000) (implicitDefEqProofs := false) (disch := (first | with_reducible rfl | omega | (simp only [H.next_add, H.next_set, H.next_del]; done) | (simp only [H.next_add, H.next_set, H.next_del]; omega) | fail)) only [go_sem, ↓reduceIte, Nat.reduceEqDiff, Nat.reduceAdd, Nat.reduceSub, Nat.reduceMul, reduceCtorEq, Nat.reduceLeDiff, oX.one, oY.one, cells_one oX.one, cells_one oY.one, hlk]
  have s7 := s6.add (.cells .rw [.int .i64 m.errs, X, Y])
  have s67 := (H.Sub.refl s6.wf).add (.cells .rw [.int .i64 m.errs, X, Y])
  refine W_count kinds.length (fun i s => ∃ tm h' x, s = ⟨tm, h', []⟩ ∧ h.Sub h' ∧ OwnC h h' x 2 ((m.splitB lot (kinds.take i)).lots.map encL) ∧ OwnC h h' Y 4 (m.wgs.map encW) ∧ (∀ b, blkOf x b → ¬ blkOf Y b) ∧ (∀ b, blkOf x b → b ≠ h6.next ∧ h.next + 1 < b) ∧ h6.next < h'.next ∧
      h'.get (h.next + 1) = some (.cells .rw [.int .i64 0, .nils, .nils]) ∧ h'.get h6.next = some (.cells .rw [.int .i64 m.errs, x, Y]) ∧
      (Opd.t 1).ev tm = .int .i64 lot ∧ (Opd.t 6).ev tm = .ptr (h.next + 1) 0 ∧ (Opd.t 10).ev tm = .ptr h6.next 0 ∧ (Opd.t 55).ev tm = K ∧ (Opd.t 56).ev tm = .int .i64 (kinds.length : Int) ∧ (Opd.t 57).ev tm = .int .i64 (i : Int))
    ?_ ?_ (i := 0) (Nat.zero_le _) ⟨_, _, X, rfl, s7, by simpa [Ml.splitB] using (oX.base s5).mono s67, (oY.base s5).mono s67, dXY, fun b hb => by have := oX.blk hb; omega, by rw [H.next_add]; omega, s67.get g6c, get_add_new rfl, (by simp only [ev_c, ev_put, ↓reduceIte, Nat.reduceEqDiff] <;> rfl), (by simp only [ev_c, ev_put, ↓reduceIte, Nat.reduceEqDiff] <;> rfl), (by simp only [ev_c, ev_put, ↓reduceIte, Nat.reduceEqDiff] <;> rfl), (by simp only [ev_c, ev_put, ↓reduceIte, Nat.reduceEqDiff] <;> rfl), (by simp only [ev_c, ev_put, ↓reduceIte, Nat.reduceEqDiff] <;> rfl), (by simp only [ev_c, ev_put, ↓reduceIte, Nat.reduceEqDiff] <;> rfl)⟩
  · rintro i s hi ⟨tm, h', x, rfl, hs, ox, oY', dx, nx, lt, gc, gd, e1, e6, e10, e55, e56, e57⟩
    have hi' : (i : Int) < (kinds.length : Int) := by omega
    obtain ⟨b, o, cc, cs, rfl, hcs, hq, hgg, hn, hn0⟩ := (hk.mono hs).at hi
    simp (maxSteps := 1000000) (implicitDefEqProofs := false) (disch := (first | with_reducible rfl | omega | (simp only [H.next_add, H.next_set, H.next_del]; done) | (simp only [H.next_add, H.next_set, H.next_del]; omega) | fail)) only [go_sem, ↓reduceIte, Nat.reduceEqDiff, Nat.reduceAdd, Nat.reduceSub, Nat.reduceMul, reduceCtorEq, Nat.reduceLeDiff, e1, e6, e10, e55, e56, e57, hi', hq (nat_cst i), hcs, hn0 (by omega), encI, cells_of gd]
    have sA := (H.Sub.refl hs.wf).add (.cells .rw [.int .i64 lot, .int .i64 kinds[i]])
    have lY : ∀ b, blkOf Y b → h5.next ≤ b ∧ b < h6.next := fun b hb => ⟨(oY.blk hb).1, (oY.blk hb).2.1⟩
    refine (ox.mono sA).app1 (r := encL ⟨lot, kinds[i]⟩) hw rfl (by omega) (SlAt.new _ rfl rfl rfl (by simp [encL]) (by simp)) rfl (by simp [Ml.splitB]; omega) (by simp [Ml.splitB]; omega) fun Z h7 o7 dZ k7 => ?_
    have l7 := k7.1
    simp only [H.next_add] at l7
    have g7c := k7.2 _ _ (sA.get gc) fun hb => by have := nx _ hb; omega
    have g7d := k7.2 _ _ (sA.get gd) fun hb => by have := nx _ hb; omega
    have s8 : h.Sub (h7.set h6.next (.cells .rw [.int .i64 m.errs, Z, Y])) := o7.1.set (by have := s6.next; omega) (by omega) hw _
    have k8 := Keeps.set h7 h6.next (.cells .rw [.int .i64 m.errs, Z, Y])
    have nZ : ∀ b, blkOf Z b → b ≠ h6.next ∧ h.next + 1 < b := fun b hb => by
      rcases dZ b hb with h | h
      · exact nx b h
      · simp only [H.next_add] at h; omega
    simp (maxSteps := 1000000) (implicitDefEqProofs := false) (disch := (first | with_reducible rfl | omega | (simp only [H.next_add, H.next_set, H.next_del]; done) | (simp only [H.next_add, H.next_set, H.next_del]; omega) | fail)) only [go_sem, ↓reduceIte, Nat.reduceEqDiff, Nat.reduceAdd, Nat.reduceSub, Nat.reduceMul, reduceCtorEq, Nat.reduceLeDiff, e1, e6, e10, e55, e56, e57, cells_of g7d, g7d, o7.one, cells_one o7.one, wr_succ]
    refine ⟨_, _, Z, rfl, s8, ?_, ((oY'.mono sA).keep k7 o7.1 fun b hb hx => dx b hx hb).keep k8 s8 fun b hb e => by have := lY b hb; omega, fun b hb hy => ?_, nZ, by rw [H.next_set]; omega, by rw [get_set_other (by omega)]; exact g7c, get_set_same rfl, (by simp only [ev_c, ev_put, ↓reduceIte, Nat.reduceEqDiff, e1] <;> rfl), (by simp only [ev_c, ev_put, ↓reduceIte, Nat.reduceEqDiff, e6] <;> rfl), (by simp only [ev_c, ev_put, ↓reduceIte, Nat.reduceEqDiff, e10] <;> rfl), (by simp only [ev_c, ev_put, ↓reduceIte, Nat.reduceEqDiff, e55] <;> rfl), (by simp only [ev_c, ev_put, ↓reduceIte, Nat.reduceEqDiff, e56] <;> rfl), (by simp only [ev_c, ev_put, ↓reduceIte, Nat.reduceEqDiff] <;> rfl)⟩
    · have := o7.keep k8 s8 fun b hb e => (nZ b hb).1 e
      have e : (m.splitB lot (kinds.take (i + 1))).lots.map encL = (m.splitB lot (kinds.take i)).lots.map encL ++ [encL ⟨lot, kinds[i]⟩] := by
        rw [List.take_succ_eq_append_getElem hi]
        simp only [Ml.splitB, List.map_append, List.map_cons, List.map_nil, List.append_assoc]
      rw [e]; exact this
    · rcases dZ b hb with h | h
      · exact dx b h hy
      · have := lY b hy; simp only [H.next_add] at h; omega
  · rintro s ⟨tm, h', x, rfl, hs, ox, oY', dx, nx, lt, gc, gd, e1, e6, e10, e55, e56, e57⟩
    rw [List.take_length] at ox
    simp (maxSteps := 1000000) (implicitDefEqProofs := false) (disch := (first | with_reducible rfl | omega | (simp only [H.next_add, H.next_set, H.next_del]; done) | (simp only [H.next_add, H.next_set, H.next_del]; omega) | fail)) only [go_sem, ↓reduceIte, Nat.reduceEqDiff, Nat.reduceAdd, Nat.reduceSub, Nat.reduceMul, reduceCtorEq, Nat.reduceLeDiff, e1, e6, e10, e55, e56, e57, Int.lt_irrefl, cells_of gd, gc, ox.one, cells_one ox.one, oY.one, cells_one oY.one]
    have s8 : h.Sub (h'.set (h.next + 1) (.cells .rw [.int .i64 m.errs, x, Y])) := hs.set (by omega) (by omega) hw _
    have k8 := Keeps.set h' (h.next + 1) (.cells .rw [.int .i64 m.errs, x, Y])
    exact q _ _ ⟨x, Y, rfl, ox.keep k8 s8 (fun b hb e => by have := nx b hb; omega), oY'.keep k8 s8 (fun b hb e => by have := (oY.blk hb).1; have := s5.next; omega), dx⟩ s8
end Go.Ab.Try
set_option linter.unusedSimpArgs false
set_option linter.unusedVariables false
namespace Go.Ab
theorem H.Sub.lt {h h' : H} (s : h.Sub h') {n : Nat} (l : n < h.next) : n < h'.next := Nat.lt_of_lt_of_le l s.next
namespace Try
/-- A mill's value is at no such block. -/
def vOff (v : V) (S : Nat → Prop) : Prop := ∀ e L W, v = .agg [e, L, W] → (∀ b, blkOf L b → ¬ S b) ∧ ∀ b, blkOf W b → ¬ S b
theorem MlIs.keep {h h' : H} {S : Nat → Prop} {v : V} {m : Ml} (a : MlIs h v m) (k : Keeps S h h') (n : vOff v S) : MlIs h' v m := by
  obtain ⟨L, W, rfl, a1, a2⟩ := a
  obtain ⟨n1, n2⟩ := n _ _ _ rfl
  exact ⟨L, W, rfl, SlAt_keep a1 k n1, SlAt_keep a2 k n2⟩
theorem MlOwn.off {h0 h : H} {v : V} {m : Ml} (a : MlOwn h0 h v m) {S : Nat → Prop} (n : ∀ b, h0.next ≤ b → ¬ S b) : vOff v S := by
  obtain ⟨L, W, rfl, a1, a2, _⟩ := a
  intro e L' W' e'
  cases e'
  exact ⟨fun b hb => n b (a1.blk hb).1, fun b hb => n b (a2.blk hb).1⟩
/-- Own, as a mill of our own. -/
theorem Own_own {h : H} {v : V} {m : Ml} (hw : h.wf) (hm : MlIs h v m) (hl : m.lots.length ≤ 1000 ∧ m.wgs.length ≤ 1000) (Q : V → H → Prop) (q : ∀ L W h', h.Sub h' → MlOwn h h' (.agg [.int .i64 m.errs, L, W]) m → L.one = true → W.one = true → Q (.agg [.int .i64 m.errs, L, W]) h') : Ev fnG fastA (.fn 18 [] []) [v] h Q := by
  refine (own_ev hw hm hl).mono fun u h3 hu => ?_
  obtain ⟨s23, a, b, rfl, la1, la2, lb1, lb2, nab, ga, gb⟩ := hu
  refine q _ _ _ s23 ⟨_, _, rfl, ⟨s23, by simp [encL], .inr (.inr ⟨a, m.lots.length, [], by simp, la1, la2, by simpa using ga, by simp, by simp⟩)⟩, ⟨s23, by simp [encW], .inr (.inr ⟨b, m.wgs.length, [], by simp, lb1, lb2, by simpa using gb, by simp, by simp⟩)⟩, fun c ⟨_, _, _, e1⟩ ⟨_, _, _, e2⟩ => ?_⟩ rfl rfl
  cases e1; cases e2; exact nab rfl
/-- theirs, with a mill of our own? its slices are single values. -/
theorem MlIs.ones {h : H} {e L W : V} {m : Ml} (a : MlIs h (.agg [e, L, W]) m) : L.one = true ∧ W.one = true := by
  obtain ⟨L', W', e', a1, a2⟩ := a
  cases e'; exact ⟨a1.one, a2.one⟩
/-- A mill of the reference is made anew. -/
theorem kindsBad_step {l : List Int} {i : Nat} (hi : i < l.length) : (l.take (i + 1)).all allowedK = ((l.take i).all allowedK && allowedK l[i]) := by
  rw [List.take_succ_eq_append_getElem hi, List.all_append]; simp
set_option maxHeartbeats 4000000 in
theorem SilkGrows_ev {h : H} {v K : V} {m : Ml} {y : Wg} {kinds : List Int} (hw : h.wf) (hm : MlIs h v m) (lot : Int) (hk : SlAt h K 1 (kinds.map encI)) : Ev fnG fastA (.fn 13 [] []) [v, .agg (encW y), .int .i64 lot, K] h fun u h' => u = .bool true := by
  refine Ev.gen fun Q q => ?_
  have hm0 := hm
  obtain ⟨L, W, rfl, aL, aW⟩ := hm
  refine Ev_body (fd := c13) rfl rfl rfl ?_
  have s1 : h.Sub ((h.add (.cells .rw [.int .i64 m.errs, L, W])).add (.cells .rw (encW y))) := (by repeat (first | assumption | exact H.Sub.refl (by assumption) | refine H.Sub.add ?_ _ | refine H.Sub.set ?_ (by first | omega | (simp only [H.next_add, H.next_set, H.next_del] <;> omega)) (by first | omega | (simp only [H.next_add, H.next_set, H.next_del] <;> omega)) (by assumption) _))
  simp (maxSteps := 1000000) (implicitDefEqProofs := false) (disch := (first | with_reducible rfl | omega | (simp only [H.next_add, H.next_set, H.next_del]; done) | (simp only [H.next_add, H.next_set, H.next_del]; omega) | fail)) only [c13, go_sem, ↓reduceIte, Nat.reduceEqDiff, Nat.reduceAdd, Nat.reduceSub, Nat.reduceMul, reduceCtorEq, Nat.reduceLeDiff, encW]
  refine great_ev s1.wf (hm0.mono s1) _ fun h2 s12 => ?_
  have s2 := s1.trans s12
  have l2 := s12.next
  simp only [H.next_add] at l2
  have g2 : h2.cells h.next = some [.int .i64 m.errs, L, W] := s12.cells (by simp (maxSteps := 1000000) (implicitDefEqProofs := false) (disch := (first | with_reducible rfl | omega | (simp only [H.next_add, H.next_set, H.next_del]; done) | (simp only [H.next_add, H.next_set, H.next_del]; omega) | fail)) only [go_sem, ↓reduceIte, Nat.reduceEqDiff, Nat.reduceAdd, Nat.reduceSub, Nat.reduceMul, reduceCtorEq, Nat.reduceLeDiff])
  have g2w : h2.cells (h.next + 1) = some (encW y) := s12.cells (by simp (maxSteps := 1000000) (implicitDefEqProofs := false) (disch := (first | with_reducible rfl | omega | (simp only [H.next_add, H.next_set, H.next_del]; done) | (simp only [H.next_add, H.next_set, H.next_del]; omega) | fail)) only [go_sem, ↓reduceIte, Nat.reduceEqDiff, Nat.reduceAdd, Nat.reduceSub, Nat.reduceMul, reduceCtorEq, Nat.reduceLeDiff])
  have hlk := hk.lenE
  cases hgr : greatM m
  case true =>
    simp (maxSteps := 1000000) (implicitDefEqProofs := false) (disch := (first | with_reducible rfl | omega | (simp only [H.next_add, H.next_set, H.next_del]; done) | (simp only [H.next_add, H.next_set, H.next_del]; omega) | fail)) only [go_sem, ↓reduceIte, Nat.reduceEqDiff, Nat.reduceAdd, Nat.reduceSub, Nat.reduceMul, reduceCtorEq, Nat.reduceLeDiff, awake_eq]
    exact q _ _ rfl
  by_cases hk16 : 16 < (kinds.length : Int)
  case pos =>
    simp (maxSteps := 1000000) (implicitDefEqProofs := false) (disch := (first | with_reducible rfl | omega | (simp only [H.next_add, H.next_set, H.next_del]; done) | (simp only [H.next_add, H.next_set, H.next_del]; omega) | fail)) only [go_sem, ↓reduceIte, Nat.reduceEqDiff, Nat.reduceAdd, Nat.reduceSub, Nat.reduceMul, reduceCtorEq, Nat.reduceLeDiff, hlk, hk16, awake_eq]
    exact q _ _ rfl
  have hle : m.lots.length ≤ 1000 ∧ m.wgs.length ≤ 1000 := by
    simp only [greatM, decide_eq_false_iff_not] at hgr
    omega
  simp (maxSteps := 1000000) (implicitDefEqProofs := false) (disch := (first | with_reducible rfl | omega | (simp only [H.next_add, H.next_set, H.next_del]; done) | (simp only [H.next_add, H.next_set, H.next_del]; omega) | fail)) only [go_sem, ↓reduceIte, Nat.reduceEqDiff, Nat.reduceAdd, Nat.reduceSub, Nat.reduceMul, reduceCtorEq, Nat.reduceLeDiff, hlk, hk16, g2]
  refine Own_own s2.wf (hm0.mono s2) hle _ fun A B h3 s23 oOwn hA hB => ?_
  have s3 := s2.trans s23
  have g3 := s23.cells g2
  have g3w := s23.cells g2w
  have l3 := s23.next
  simp (maxSteps := 1000000) (implicitDefEqProofs := false) (disch := (first | with_reducible rfl | omega | (simp only [H.next_add, H.next_set, H.next_del]; done) | (simp only [H.next_add, H.next_set, H.next_del]; omega) | fail)) only [go_sem, ↓reduceIte, Nat.reduceEqDiff, Nat.reduceAdd, Nat.reduceSub, Nat.reduceMul, reduceCtorEq, Nat.reduceLeDiff, g3]
  refine theirs_ev s3.wf (hm0.mono s3) hle _ fun x h4 s34 hx => ?_
  have s4 := s3.trans s34
  have g4 := s34.cells g3
  have l4 := s34.next
  obtain ⟨X, Y, rfl, aX, aY⟩ := id hx
  have oX1 := aX.one
  have oY1 := aY.one
  simp (maxSteps := 1000000) (implicitDefEqProofs := false) (disch := (first | with_reducible rfl | omega | (simp only [H.next_add, H.next_set, H.next_del]; done) | (simp only [H.next_add, H.next_set, H.next_del]; omega) | fail)) only [go_sem, ↓reduceIte, Nat.reduceEqDiff, Nat.reduceAdd, Nat.reduceSub, Nat.reduceMul, reduceCtorEq, Nat.reduceLeDiff, dupKind_ev s4.wf (hk.mono s4) (by omega), oX1, oY1, hA, hB, cells_one oX1, cells_one oY1, cells_one hA, cells_one hB, g2, g3, g4, hlk]
  have s4m := (H.Sub.refl s4.wf).add (.cells .rw (kinds.map encI).flatten)
  have s45 : h4.Sub (((((h4.add (.cells .rw (kinds.map encI).flatten)).add (.cells .rw [.int .i64 0, .nils, .nils])).add (.cells .rw [.int .i64 0, .nils, .nils])).set (h4.next + 1) (.cells .rw [.int .i64 m.errs, A, B])).set (h4.next + 1 + 1) (.cells .rw [.int .i64 m.errs, X, Y])) := by
    have w4 := s4.wf
    exact (by repeat (first | assumption | exact H.Sub.refl (by assumption) | refine H.Sub.add ?_ _ | refine H.Sub.set ?_ (by first | omega | (simp only [H.next_add, H.next_set, H.next_del] <;> omega)) (by first | omega | (simp only [H.next_add, H.next_set, H.next_del] <;> omega)) (by assumption) _))
  have gM : (((((h4.add (.cells .rw (kinds.map encI).flatten)).add (.cells .rw [.int .i64 0, .nils, .nils])).add (.cells .rw [.int .i64 0, .nils, .nils])).set (h4.next + 1) (.cells .rw [.int .i64 m.errs, A, B])).set (h4.next + 1 + 1) (.cells .rw [.int .i64 m.errs, X, Y])).cells h4.next = some (kinds.map encI).flatten := by simp (maxSteps := 1000000) (implicitDefEqProofs := false) (disch := (first | with_reducible rfl | omega | (simp only [H.next_add, H.next_set, H.next_del]; done) | (simp only [H.next_add, H.next_set, H.next_del]; omega) | fail)) only [go_sem, ↓reduceIte, Nat.reduceEqDiff, Nat.reduceAdd, Nat.reduceSub, Nat.reduceMul, reduceCtorEq, Nat.reduceLeDiff]
  have c9 : (((((h4.add (.cells .rw (kinds.map encI).flatten)).add (.cells .rw [.int .i64 0, .nils, .nils])).add (.cells .rw [.int .i64 0, .nils, .nils])).set (h4.next + 1) (.cells .rw [.int .i64 m.errs, A, B])).set (h4.next + 1 + 1) (.cells .rw [.int .i64 m.errs, X, Y])).cells (h4.next + 1) = some [.int .i64 m.errs, A, B] := by simp (maxSteps := 1000000) (implicitDefEqProofs := false) (disch := (first | with_reducible rfl | omega | (simp only [H.next_add, H.next_set, H.next_del]; done) | (simp only [H.next_add, H.next_set, H.next_del]; omega) | fail)) only [go_sem, ↓reduceIte, Nat.reduceEqDiff, Nat.reduceAdd, Nat.reduceSub, Nat.reduceMul, reduceCtorEq, Nat.reduceLeDiff]
  have c10 : (((((h4.add (.cells .rw (kinds.map encI).flatten)).add (.cells .rw [.int .i64 0, .nils, .nils])).add (.cells .rw [.int .i64 0, .nils, .nils])).set (h4.next + 1) (.cells .rw [.int .i64 m.errs, A, B])).set (h4.next + 1 + 1) (.cells .rw [.int .i64 m.errs, X, Y])).cells (h4.next + 1 + 1) = some [.int .i64 m.errs, X, Y] := by simp (maxSteps := 1000000) (implicitDefEqProofs := false) (disch := (first | with_reducible rfl | omega | (simp only [H.next_add, H.next_set, H.next_del]; done) | (simp only [H.next_add, H.next_set, H.next_del]; omega) | fail)) only [go_sem, ↓reduceIte, Nat.reduceEqDiff, Nat.reduceAdd, Nat.reduceSub, Nat.reduceMul, reduceCtorEq, Nat.reduceLeDiff]
  generalize (((((h4.add (.cells .rw (kinds.map encI).flatten)).add (.cells .rw [.int .i64 0, .nils, .nils])).add (.cells .rw [.int .i64 0, .nils, .nils])).set (h4.next + 1) (.cells .rw [.int .i64 m.errs, A, B])).set (h4.next + 1 + 1) (.cells .rw [.int .i64 m.errs, X, Y])) = h5 at s45 gM c9 c10 ⊢
  have s5 := s4.trans s45
  have l45 := s45.next
  have hown5 := (oOwn.mono (s34.trans s45)).is hle
  have hmine5 : SlAt h5 (.sl h4.next 0 kinds.length (.fix kinds.length)) 1 (kinds.map encI) := by
    refine ⟨hk.1, hk.2.1, .inr ⟨h4.next, 0, .fix kinds.length, _, by simp, .inr gM, ?_⟩⟩
    have hfl := flatten_len hk.1
    exact getN_full hfl
  refine (refCheck_ev s5.wf (hx.mono s45)).mono fun u h6 hu => ?_
  obtain ⟨rfl, s56⟩ := hu
  have s6 := s5.trans s56
  have l56 := s56.next
  have d9 := s56.cells c9
  have d10 := s56.cells c10
  have d1 := (s45.trans s56).cells g4
  have dw := (s34.trans (s45.trans s56)).cells g3w
  simp (maxSteps := 1000000) (implicitDefEqProofs := false) (disch := (first | with_reducible rfl | omega | (simp only [H.next_add, H.next_set, H.next_del]; done) | (simp only [H.next_add, H.next_set, H.next_del]; omega) | fail)) only [go_sem, ↓reduceIte, Nat.reduceEqDiff, Nat.reduceAdd, Nat.reduceSub, Nat.reduceMul, reduceCtorEq, Nat.reduceLeDiff]
  have s67 : h6.Sub ((h6.add (.cells .rw [.int .i64 0, .nils, .nils])).add (.cells .rw [.int .i64 0, .nils, .nils])) := ((H.Sub.refl s6.wf).add _).add _
  have f15 : ((h6.add (.cells .rw [.int .i64 0, .nils, .nils])).add (.cells .rw [.int .i64 0, .nils, .nils])).get h6.next = some (.cells .rw [.int .i64 0, .nils, .nils]) := by simp (maxSteps := 1000000) (implicitDefEqProofs := false) (disch := (first | with_reducible rfl | omega | (simp only [H.next_add, H.next_set, H.next_del]; done) | (simp only [H.next_add, H.next_set, H.next_del]; omega) | fail)) only [go_sem, ↓reduceIte, Nat.reduceEqDiff, Nat.reduceAdd, Nat.reduceSub, Nat.reduceMul, reduceCtorEq, Nat.reduceLeDiff]
  have f16 : ((h6.add (.cells .rw [.int .i64 0, .nils, .nils])).add (.cells .rw [.int .i64 0, .nils, .nils])).get (h6.next + 1) = some (.cells .rw [.int .i64 0, .nils, .nils]) := by simp (maxSteps := 1000000) (implicitDefEqProofs := false) (disch := (first | with_reducible rfl | omega | (simp only [H.next_add, H.next_set, H.next_del]; done) | (simp only [H.next_add, H.next_set, H.next_del]; omega) | fail)) only [go_sem, ↓reduceIte, Nat.reduceEqDiff, Nat.reduceAdd, Nat.reduceSub, Nat.reduceMul, reduceCtorEq, Nat.reduceLeDiff]
  have l67 : ((h6.add (.cells .rw [.int .i64 0, .nils, .nils])).add (.cells .rw [.int .i64 0, .nils, .nils])).next = h6.next + 2 := by simp only [H.next_add]
  have w67 := s67.wf
  generalize (h6.add (.cells .rw [.int .i64 0, .nils, .nils])).add (.cells .rw [.int .i64 0, .nils, .nils]) = h7 at s67 f15 f16 l67 w67 ⊢
  have s7 := s6.trans s67
  have hx7 := hx.mono (s45.trans (s56.trans s67))
  have hm7 := hm0.mono s7
  obtain ⟨I, hI⟩ : ∃ I : St → Prop, ∀ s, I s ↔ ∃ tm h8 L1 W1 L2 W2, s = ⟨tm, h8, []⟩ ∧ h6.Sub h8 ∧ (Opd.t 2).ev tm = .int .i64 lot ∧ (Opd.t 3).ev tm = K ∧ (Opd.t 4).ev tm = .ptr h.next 0 ∧ (Opd.t 5).ev tm = .ptr (h.next + 1) 0 ∧ (Opd.t 9).ev tm = .ptr (h4.next + 1) 0 ∧ (Opd.t 11).ev tm = .sl h4.next 0 kinds.length (.fix kinds.length) ∧
      (Opd.t 13).ev tm = .int .i64 (weighE m y) ∧ (Opd.t 14).ev tm = .int .i64 (splitE m lot kinds) ∧ (Opd.t 15).ev tm = .ptr h6.next 0 ∧ (Opd.t 16).ev tm = .ptr (h6.next + 1) 0 ∧
      h8.cells h6.next = some [.int .i64 (weighM m y).errs, L1, W1] ∧ h8.cells (h6.next + 1) = some [.int .i64 (splitM m lot kinds).errs, L2, W2] ∧ MlIs h8 (.agg [.int .i64 (weighM m y).errs, L1, W1]) (weighM m y) ∧ MlIs h8 (.agg [.int .i64 (splitM m lot kinds).errs, L2, W2]) (splitM m lot kinds) := ⟨_, fun s => Iff.rfl⟩
  refine PB_cut (p := check m = 0) I ?_ ?_ ?_
  · intro c
    have g := good_of c
    have gl := g.lots
    have gw := g.wgs
    rw [W_seq]
    obtain ⟨J, hJ⟩ : ∃ J : St → Prop, ∀ s, J s ↔ ∃ tm h8 L1 W1, s = ⟨tm, h8, []⟩ ∧ h6.Sub h8 ∧ h6.next + 1 < h8.next ∧ (Opd.t 2).ev tm = .int .i64 lot ∧ (Opd.t 3).ev tm = K ∧ (Opd.t 4).ev tm = .ptr h.next 0 ∧ (Opd.t 5).ev tm = .ptr (h.next + 1) 0 ∧ (Opd.t 9).ev tm = .ptr (h4.next + 1) 0 ∧ (Opd.t 10).ev tm = .ptr (h4.next + 1 + 1) 0 ∧ (Opd.t 11).ev tm = .sl h4.next 0 kinds.length (.fix kinds.length) ∧
      (Opd.t 13).ev tm = .int .i64 (weighE m y) ∧ (Opd.t 14).ev tm = .int .i64 0 ∧ (Opd.t 15).ev tm = .ptr h6.next 0 ∧ (Opd.t 16).ev tm = .ptr (h6.next + 1) 0 ∧
      h8.cells h6.next = some [.int .i64 (weighM m y).errs, L1, W1] ∧ h8.get (h6.next + 1) = some (.cells .rw [.int .i64 0, .nils, .nils]) ∧ MlIs h8 (.agg [.int .i64 (weighM m y).errs, L1, W1]) (weighM m y) ∧ (∀ b, blkOf L1 b → b ≠ h6.next + 1 ∧ b < h8.next) ∧ (∀ b, blkOf W1 b → b ≠ h6.next + 1 ∧ b < h8.next) := ⟨_, fun s => Iff.rfl⟩
    refine W_cut J ?_ ?_
    · have k1 := s67.cells d1
      have kw := s67.cells dw
      have hlenW := aW.lenE
      by_cases c2 : (m.wgs.length : Int) = 10
      case pos =>
        have e1 : weighE m y = 9 := by simp [weighE, c, c2]
        have e2 : weighM m y = Ml.empty := by simp [weighM, e1]
        simp (maxSteps := 1000000) (implicitDefEqProofs := false) (disch := (first | with_reducible rfl | omega | (simp only [H.next_add, H.next_set, H.next_del]; done) | (simp only [H.next_add, H.next_set, H.next_del]; omega) | fail)) only [go_sem, ↓reduceIte, Nat.reduceEqDiff, Nat.reduceAdd, Nat.reduceSub, Nat.reduceMul, reduceCtorEq, Nat.reduceLeDiff, k1, hlenW, c2]
        exact ⟨rfl, (hJ _).2 ⟨_, _, .nils, .nils, rfl, s67, by omega, (by simp only [ev_c, ev_put, ↓reduceIte, Nat.reduceEqDiff] <;> rfl), (by simp only [ev_c, ev_put, ↓reduceIte, Nat.reduceEqDiff] <;> rfl), (by simp only [ev_c, ev_put, ↓reduceIte, Nat.reduceEqDiff] <;> rfl), (by simp only [ev_c, ev_put, ↓reduceIte, Nat.reduceEqDiff] <;> rfl), (by simp only [ev_c, ev_put, ↓reduceIte, Nat.reduceEqDiff] <;> rfl), (by simp only [ev_c, ev_put, ↓reduceIte, Nat.reduceEqDiff] <;> rfl), (by simp only [ev_c, ev_put, ↓reduceIte, Nat.reduceEqDiff] <;> rfl), by rw [e1]; exact (by simp only [ev_c, ev_put, ↓reduceIte, Nat.reduceEqDiff] <;> rfl), by rw [← c]; exact (by simp only [ev_c, ev_put, ↓reduceIte, Nat.reduceEqDiff] <;> rfl), (by simp only [ev_c, ev_put, ↓reduceIte, Nat.reduceEqDiff] <;> rfl), (by simp only [ev_c, ev_put, ↓reduceIte, Nat.reduceEqDiff] <;> rfl), by rw [e2]; exact cells_of f15, f16, by rw [e2]; exact (MlOwn.empty (H.Sub.refl w67)).is (by simp [Ml.empty]), fun b hb => (blkOf_nils hb).elim, fun b hb => (blkOf_nils hb).elim⟩⟩
      have e1 : weighE m y = check (m.weighed y) := by simp [weighE, c, c2]
      simp (maxSteps := 1000000) (implicitDefEqProofs := false) (disch := (first | with_reducible rfl | omega | (simp only [H.next_add, H.next_set, H.next_del]; done) | (simp only [H.next_add, H.next_set, H.next_del]; omega) | fail)) only [go_sem, ↓reduceIte, Nat.reduceEqDiff, Nat.reduceAdd, Nat.reduceSub, Nat.reduceMul, reduceCtorEq, Nat.reduceLeDiff, k1, hlenW, c2]
      refine theirs_own s7.wf hm7 hle _ fun z h8 s78 oz => ?_
      obtain ⟨X2, Y2, rfl, oX2, oY2, d2⟩ := id oz
      have s8 := s67.trans s78
      have l8 := s78.next
      have p1 := s78.cells k1
      have pw := s78.cells kw
      simp (maxSteps := 1000000) (implicitDefEqProofs := false) (disch := (first | with_reducible rfl | omega | (simp only [H.next_add, H.next_set, H.next_del]; done) | (simp only [H.next_add, H.next_set, H.next_del]; omega) | fail)) only [go_sem, ↓reduceIte, Nat.reduceEqDiff, Nat.reduceAdd, Nat.reduceSub, Nat.reduceMul, reduceCtorEq, Nat.reduceLeDiff, oX2.one, oY2.one, cells_one oX2.one, cells_one oY2.one, pw, encW]
      have s8b := ((H.Sub.refl s8.wf).add (.cells .rw [.int .i64 m.errs, X2, Y2])).add (.cells .rw (encW y))
      refine (oY2.mono s8b).app1 (r := encW y) s7.wf rfl (by omega) (SlAt.new _ (by simp only [H.next_add]) rfl (by simp [encW]) (by simp [encW]) (by simp)) rfl (by simp; omega) (by simp; omega) fun Z h9 o9 dZ k9 => ?_
      have bY : ∀ b, blkOf Y2 b → h7.next ≤ b ∧ b < h8.next := fun b hb => ⟨(oY2.blk hb).1, (oY2.blk hb).2.1⟩
      have bX : ∀ b, blkOf X2 b → h7.next ≤ b ∧ b < h8.next := fun b hb => ⟨(oX2.blk hb).1, (oX2.blk hb).2.1⟩
      have l9 := k9.1
      simp only [H.next_add] at l9
      have g9 : h9.get h8.next = some (.cells .rw [.int .i64 m.errs, X2, Y2]) := k9.2 _ _ (by simp (maxSteps := 1000000) (implicitDefEqProofs := false) (disch := (first | with_reducible rfl | omega | (simp only [H.next_add, H.next_set, H.next_del]; done) | (simp only [H.next_add, H.next_set, H.next_del]; omega) | fail)) only [go_sem, ↓reduceIte, Nat.reduceEqDiff, Nat.reduceAdd, Nat.reduceSub, Nat.reduceMul, reduceCtorEq, Nat.reduceLeDiff]) fun hb => by have := bY _ hb; omega
      have s79 := o9.1
      have sA : h7.Sub (h9.set h8.next (.cells .rw [.int .i64 m.errs, X2, Z])) := s79.set (by omega) (by omega) s7.wf _
      have kA := Keeps.set h9 h8.next (.cells .rw [.int .i64 m.errs, X2, Z])
      have gA : (h9.set h8.next (.cells .rw [.int .i64 m.errs, X2, Z])).cells h8.next = some [.int .i64 m.errs, X2, Z] := cells_set_same rfl
      have lA : (h9.set h8.next (.cells .rw [.int .i64 m.errs, X2, Z])).next = h9.next := H.next_set _ _ _
      have oXA := ((oX2.mono s8b).keep k9 o9.1 d2).keep kA sA fun b hb e => by have := bX b hb; omega
      have oZA := o9.keep kA sA fun b hb e => by
        rcases dZ b hb with h | h
        · have := bY b h; omega
        · simp only [H.next_add] at h; omega
      simp (maxSteps := 1000000) (implicitDefEqProofs := false) (disch := (first | with_reducible rfl | omega | (simp only [H.next_add, H.next_set, H.next_del]; done) | (simp only [H.next_add, H.next_set, H.next_del]; omega) | fail)) only [go_sem, ↓reduceIte, Nat.reduceEqDiff, Nat.reduceAdd, Nat.reduceSub, Nat.reduceMul, reduceCtorEq, Nat.reduceLeDiff, cells_of g9, g9, o9.one, cells_one o9.one]
      generalize h9.set h8.next (.cells .rw [.int .i64 m.errs, X2, Z]) = hA at sA kA gA lA oXA oZA ⊢
      have hzA : MlIs hA (.agg [.int .i64 m.errs, X2, Z]) (m.weighed y) := ⟨X2, Z, rfl, oXA.sl (by simp [Ml.weighed]; omega), by
        have := oZA.sl (by simp; omega)
        simpa [Ml.weighed] using this⟩
      refine (refCheck_ev sA.wf hzA).mono fun u hB hu => ?_
      obtain ⟨rfl, sAB⟩ := hu
      have sB := sA.trans sAB
      have lB := sAB.next
      have b15 := sB.get f15
      have b16 := sB.get f16
      by_cases c3 : check (m.weighed y) = 0
      case neg =>
        have e2 : weighM m y = Ml.empty := by simp [weighM, e1, c3]
        simp (maxSteps := 1000000) (implicitDefEqProofs := false) (disch := (first | with_reducible rfl | omega | (simp only [H.next_add, H.next_set, H.next_del]; done) | (simp only [H.next_add, H.next_set, H.next_del]; omega) | fail)) only [go_sem, ↓reduceIte, Nat.reduceEqDiff, Nat.reduceAdd, Nat.reduceSub, Nat.reduceMul, reduceCtorEq, Nat.reduceLeDiff, c3]
        exact ⟨rfl, (hJ _).2 ⟨_, _, .nils, .nils, rfl, s67.trans sB, by omega, (by simp only [ev_c, ev_put, ↓reduceIte, Nat.reduceEqDiff] <;> rfl), (by simp only [ev_c, ev_put, ↓reduceIte, Nat.reduceEqDiff] <;> rfl), (by simp only [ev_c, ev_put, ↓reduceIte, Nat.reduceEqDiff] <;> rfl), (by simp only [ev_c, ev_put, ↓reduceIte, Nat.reduceEqDiff] <;> rfl), (by simp only [ev_c, ev_put, ↓reduceIte, Nat.reduceEqDiff] <;> rfl), (by simp only [ev_c, ev_put, ↓reduceIte, Nat.reduceEqDiff] <;> rfl), (by simp only [ev_c, ev_put, ↓reduceIte, Nat.reduceEqDiff] <;> rfl), by rw [e1]; exact (by simp only [ev_c, ev_put, ↓reduceIte, Nat.reduceEqDiff] <;> rfl), by rw [← c]; exact (by simp only [ev_c, ev_put, ↓reduceIte, Nat.reduceEqDiff] <;> rfl), (by simp only [ev_c, ev_put, ↓reduceIte, Nat.reduceEqDiff] <;> rfl), (by simp only [ev_c, ev_put, ↓reduceIte, Nat.reduceEqDiff] <;> rfl), by rw [e2]; exact cells_of b15, b16, by rw [e2]; exact (MlOwn.empty (H.Sub.refl sB.wf)).is (by simp [Ml.empty]), fun b hb => (blkOf_nils hb).elim, fun b hb => (blkOf_nils hb).elim⟩⟩
      have e2 : weighM m y = m.weighed y := by simp [weighM, e1, c3]
      have q1 := sB.cells k1
      have qw := sB.cells kw
      simp (maxSteps := 1000000) (implicitDefEqProofs := false) (disch := (first | with_reducible rfl | omega | (simp only [H.next_add, H.next_set, H.next_del]; done) | (simp only [H.next_add, H.next_set, H.next_del]; omega) | fail)) only [go_sem, ↓reduceIte, Nat.reduceEqDiff, Nat.reduceAdd, Nat.reduceSub, Nat.reduceMul, reduceCtorEq, Nat.reduceLeDiff, c3, q1]
      refine Own_own sB.wf (hm7.mono sB) hle _ fun A2 B2 hC sBC oo hA2 hB2 => ?_
      have r15 := sBC.get b15
      have r16 := sBC.get b16
      have rw5 := sBC.cells qw
      have lC := sBC.next
      have sC := sB.trans sBC
      obtain ⟨A2', B2', ee, oA2, oB2, dAB⟩ := id oo
      cases ee
      have bA2 : ∀ b, blkOf A2 b → hB.next ≤ b ∧ b < hC.next := fun b hb => ⟨(oA2.blk hb).1, (oA2.blk hb).2.1⟩
      have bB2 : ∀ b, blkOf B2 b → hB.next ≤ b ∧ b < hC.next := fun b hb => ⟨(oB2.blk hb).1, (oB2.blk hb).2.1⟩
      have w6 := s6.wf
      have sD : h6.Sub (hC.set h6.next (.cells .rw [.int .i64 m.errs, A2, B2])) := (s67.trans sC).set (by omega) (by omega) w6 _
      have kD := Keeps.set hC h6.next (.cells .rw [.int .i64 m.errs, A2, B2])
      have s6B := s67.trans sB
      have oAD := (oA2.base s6B).keep kD sD fun b hb e => by have := bA2 b hb; omega
      have oBD := (oB2.base s6B).keep kD sD fun b hb e => by have := bB2 b hb; omega
      have gD : (hC.set h6.next (.cells .rw [.int .i64 m.errs, A2, B2])).get h6.next = some (.cells .rw [.int .i64 m.errs, A2, B2]) := get_set_same rfl
      have gD16 : (hC.set h6.next (.cells .rw [.int .i64 m.errs, A2, B2])).get (h6.next + 1) = some (.cells .rw [.int .i64 0, .nils, .nils]) := by rw [get_set_other (by omega)]; exact r16
      have lD : (hC.set h6.next (.cells .rw [.int .i64 m.errs, A2, B2])).next = hC.next := H.next_set _ _ _
      have gDw := kD.cells rw5 (by have := s6.next; have := s45.next; have := s56.next; omega)
      simp (maxSteps := 1000000) (implicitDefEqProofs := false) (disch := (first | with_reducible rfl | omega | (simp only [H.next_add, H.next_set, H.next_del]; done) | (simp only [H.next_add, H.next_set, H.next_del]; omega) | fail)) only [go_sem, ↓reduceIte, Nat.reduceEqDiff, Nat.reduceAdd, Nat.reduceSub, Nat.reduceMul, reduceCtorEq, Nat.reduceLeDiff, r15, hA2, hB2, cells_one hA2, cells_one hB2, cells_of gD, gDw, encW]
      generalize hC.set h6.next (.cells .rw [.int .i64 m.errs, A2, B2]) = hD at sD kD oAD oBD gD gD16 lD gDw ⊢
      have sE := (H.Sub.refl sD.wf).add (.cells .rw (encW y))
      refine (oBD.mono sE).app1 (r := encW y) w6 rfl (by omega) (SlAt.new _ lD.symm rfl (by simp [encW]) (by simp [encW]) (by simp)) rfl (by simp; omega) (by simp; omega) fun Z2 hF oF dZ2 kF => ?_
      have gF := kF.2 _ _ (sE.get gD) fun hb => by have := bB2 _ hb; omega
      have gF16 := kF.2 _ _ (sE.get gD16) fun hb => by have := bB2 _ hb; omega
      have lF := kF.1
      simp only [H.next_add] at lF
      simp (maxSteps := 1000000) (implicitDefEqProofs := false) (disch := (first | with_reducible rfl | omega | (simp only [H.next_add, H.next_set, H.next_del]; done) | (simp only [H.next_add, H.next_set, H.next_del]; omega) | fail)) only [go_sem, ↓reduceIte, Nat.reduceEqDiff, Nat.reduceAdd, Nat.reduceSub, Nat.reduceMul, reduceCtorEq, Nat.reduceLeDiff, cells_of gF, gF, oF.one, cells_one oF.one]
      have sG : h6.Sub (hF.set h6.next (.cells .rw [.int .i64 m.errs, A2, Z2])) := oF.1.set (by omega) (by omega) w6 _
      have kG := Keeps.set hF h6.next (.cells .rw [.int .i64 m.errs, A2, Z2])
      have nZ2 : ∀ b, blkOf Z2 b → h6.next + 1 < b := fun b hb => by
        rcases dZ2 b hb with h | h
        · have := bB2 b h; omega
        · simp only [H.next_add] at h; omega
      have oAG := ((oAD.mono sE).keep kF oF.1 dAB).keep kG sG fun b hb e => by have := bA2 b hb; omega
      have oZG := oF.keep kG sG fun b hb e => by have := nZ2 b hb; omega
      refine ⟨rfl, (hJ _).2 ⟨_, _, A2, Z2, rfl, sG, by rw [H.next_set]; omega, (by simp only [ev_c, ev_put, ↓reduceIte, Nat.reduceEqDiff] <;> rfl), (by simp only [ev_c, ev_put, ↓reduceIte, Nat.reduceEqDiff] <;> rfl), (by simp only [ev_c, ev_put, ↓reduceIte, Nat.reduceEqDiff] <;> rfl), (by simp only [ev_c, ev_put, ↓reduceIte, Nat.reduceEqDiff] <;> rfl), (by simp only [ev_c, ev_put, ↓reduceIte, Nat.reduceEqDiff] <;> rfl), (by simp only [ev_c, ev_put, ↓reduceIte, Nat.reduceEqDiff] <;> rfl), (by simp only [ev_c, ev_put, ↓reduceIte, Nat.reduceEqDiff] <;> rfl), by rw [e1, c3, ← c]; exact (by simp only [ev_c, ev_put, ↓reduceIte, Nat.reduceEqDiff] <;> rfl), by rw [← c]; exact (by simp only [ev_c, ev_put, ↓reduceIte, Nat.reduceEqDiff] <;> rfl), (by simp only [ev_c, ev_put, ↓reduceIte, Nat.reduceEqDiff] <;> rfl), (by simp only [ev_c, ev_put, ↓reduceIte, Nat.reduceEqDiff] <;> rfl), by rw [e2]; exact cells_set_same rfl, by rw [get_set_other (by omega)]; exact gF16, ?_, fun b hb => by have := bA2 b hb; have := (oAG.blk hb).2.1; omega, fun b hb => by have := nZ2 b hb; have := (oZG.blk hb).2.1; omega⟩⟩
      rw [e2]
      exact ⟨A2, Z2, rfl, oAG.sl (by simp [Ml.weighed]; omega), by
        have := oZG.sl (by simp; omega)
        simpa [Ml.weighed] using this⟩
    · intro s hs
      obtain ⟨tm, h8, L1, W1, rfl, s68, l8, t2, t3, t4, t5, t9, t10, t11, t13, t14, t15, t16, k15, k16, m15, n1, n2⟩ := (hJ s).1 hs
      have k1 := s68.cells d1
      have k10 := s68.cells d10
      have hx8 := hx.mono (s45.trans (s56.trans s68))
      have s8 := s6.trans s68
      have hlenL := aL.lenE
      simp (maxSteps := 1000000) (implicitDefEqProofs := false) (disch := (first | with_reducible rfl | omega | (simp only [H.next_add, H.next_set, H.next_del]; done) | (simp only [H.next_add, H.next_set, H.next_del]; omega) | fail)) only [go_sem, ↓reduceIte, Nat.reduceEqDiff, Nat.reduceAdd, Nat.reduceSub, Nat.reduceMul, reduceCtorEq, Nat.reduceLeDiff, t2, t3, t4, t5, t9, t10, t11, t13, t14, t15, t16, hlk]
      refine W_count kinds.length (fun i s => ∃ tm, s = ⟨tm, h8, []⟩ ∧ (Opd.t 2).ev tm = .int .i64 lot ∧ (Opd.t 3).ev tm = K ∧ (Opd.t 4).ev tm = .ptr h.next 0 ∧ (Opd.t 5).ev tm = .ptr (h.next + 1) 0 ∧ (Opd.t 9).ev tm = .ptr (h4.next + 1) 0 ∧ (Opd.t 10).ev tm = .ptr (h4.next + 1 + 1) 0 ∧ (Opd.t 11).ev tm = .sl h4.next 0 kinds.length (.fix kinds.length) ∧
          (Opd.t 13).ev tm = .int .i64 (weighE m y) ∧ (Opd.t 14).ev tm = .int .i64 0 ∧ (Opd.t 15).ev tm = .ptr h6.next 0 ∧ (Opd.t 16).ev tm = .ptr (h6.next + 1) 0 ∧ (Opd.t 18).ev tm = .bool (!(kinds.take i).all allowedK) ∧ (Opd.t 71).ev tm = K ∧ (Opd.t 72).ev tm = .int .i64 (kinds.length : Int) ∧ (Opd.t 73).ev tm = .int .i64 (i : Int))
        ?_ ?_ (i := 0) (Nat.zero_le _) ⟨_, rfl, (by simp only [ev_c, ev_put, ↓reduceIte, Nat.reduceEqDiff, t2] <;> rfl), (by simp only [ev_c, ev_put, ↓reduceIte, Nat.reduceEqDiff, t3] <;> rfl), (by simp only [ev_c, ev_put, ↓reduceIte, Nat.reduceEqDiff, t4] <;> rfl), (by simp only [ev_c, ev_put, ↓reduceIte, Nat.reduceEqDiff, t5] <;> rfl), (by simp only [ev_c, ev_put, ↓reduceIte, Nat.reduceEqDiff, t9] <;> rfl), (by simp only [ev_c, ev_put, ↓reduceIte, Nat.reduceEqDiff, t10] <;> rfl), (by simp only [ev_c, ev_put, ↓reduceIte, Nat.reduceEqDiff, t11] <;> rfl), (by simp only [ev_c, ev_put, ↓reduceIte, Nat.reduceEqDiff, t13] <;> rfl), (by simp only [ev_c, ev_put, ↓reduceIte, Nat.reduceEqDiff, t14] <;> rfl), (by simp only [ev_c, ev_put, ↓reduceIte, Nat.reduceEqDiff, t15] <;> rfl), (by simp only [ev_c, ev_put, ↓reduceIte, Nat.reduceEqDiff, t16] <;> rfl), (by simp only [ev_c, ev_put, ↓reduceIte, Nat.reduceEqDiff] <;> rfl), (by simp only [ev_c, ev_put, ↓reduceIte, Nat.reduceEqDiff] <;> rfl), (by simp only [ev_c, ev_put, ↓reduceIte, Nat.reduceEqDiff] <;> rfl), (by simp only [ev_c, ev_put, ↓reduceIte, Nat.reduceEqDiff] <;> rfl)⟩ <;> clear t2 t3 t4 t5 t9 t10 t11 t13 t14 t15 t16 hs tm
      · rintro i s hi ⟨tm, rfl, t2, t3, t4, t5, t9, t10, t11, t13, t14, t15, t16, t18, t71, t72, t73⟩
        have hi' : (i : Int) < (kinds.length : Int) := by omega
        obtain ⟨b, o, cc, cs, rfl, hcs, hq, hgg, hn, hn0⟩ := (hk.mono s8).at hi
        have hstep := kindsBad_step hi
        cases hb : (kinds.take i).all allowedK
        · rw [hb, Bool.false_and] at hstep
          rw [hb] at t18
          simp (maxSteps := 1000000) (implicitDefEqProofs := false) (disch := (first | with_reducible rfl | omega | (simp only [H.next_add, H.next_set, H.next_del]; done) | (simp only [H.next_add, H.next_set, H.next_del]; omega) | fail)) only [go_sem, ↓reduceIte, Nat.reduceEqDiff, Nat.reduceAdd, Nat.reduceSub, Nat.reduceMul, reduceCtorEq, Nat.reduceLeDiff, t18, t71, t72, t73, hi', hq (nat_cst i), hcs, hn0 (by omega), encI, Bool.not_false, wr_succ]
          exact ⟨_, rfl, (by simp only [ev_c, ev_put, ↓reduceIte, Nat.reduceEqDiff, t2] <;> rfl), (by simp only [ev_c, ev_put, ↓reduceIte, Nat.reduceEqDiff, t3] <;> rfl), (by simp only [ev_c, ev_put, ↓reduceIte, Nat.reduceEqDiff, t4] <;> rfl), (by simp only [ev_c, ev_put, ↓reduceIte, Nat.reduceEqDiff, t5] <;> rfl), (by simp only [ev_c, ev_put, ↓reduceIte, Nat.reduceEqDiff, t9] <;> rfl), (by simp only [ev_c, ev_put, ↓reduceIte, Nat.reduceEqDiff, t10] <;> rfl), (by simp only [ev_c, ev_put, ↓reduceIte, Nat.reduceEqDiff, t11] <;> rfl), (by simp only [ev_c, ev_put, ↓reduceIte, Nat.reduceEqDiff, t13] <;> rfl), (by simp only [ev_c, ev_put, ↓reduceIte, Nat.reduceEqDiff, t14] <;> rfl), (by simp only [ev_c, ev_put, ↓reduceIte, Nat.reduceEqDiff, t15] <;> rfl), (by simp only [ev_c, ev_put, ↓reduceIte, Nat.reduceEqDiff, t16] <;> rfl), by rw [hstep]; exact (by simp only [ev_c, ev_put, ↓reduceIte, Nat.reduceEqDiff] <;> rfl), (by simp only [ev_c, ev_put, ↓reduceIte, Nat.reduceEqDiff, t71] <;> rfl), (by simp only [ev_c, ev_put, ↓reduceIte, Nat.reduceEqDiff, t72] <;> rfl), (by simp only [ev_c, ev_put, ↓reduceIte, Nat.reduceEqDiff] <;> rfl)⟩
        · rw [hb, Bool.true_and] at hstep
          rw [hb] at t18
          by_cases ka : kinds[i] < 0
          · have ek : allowedK kinds[i] = false := by simp [allowedK]; omega
            simp (maxSteps := 1000000) (implicitDefEqProofs := false) (disch := (first | with_reducible rfl | omega | (simp only [H.next_add, H.next_set, H.next_del]; done) | (simp only [H.next_add, H.next_set, H.next_del]; omega) | fail)) only [go_sem, ↓reduceIte, Nat.reduceEqDiff, Nat.reduceAdd, Nat.reduceSub, Nat.reduceMul, reduceCtorEq, Nat.reduceLeDiff, t18, t71, t72, t73, hi', hq (nat_cst i), hcs, hn0 (by omega), encI, Bool.not_true, ka, wr_succ]
            exact ⟨_, rfl, (by simp only [ev_c, ev_put, ↓reduceIte, Nat.reduceEqDiff, t2] <;> rfl), (by simp only [ev_c, ev_put, ↓reduceIte, Nat.reduceEqDiff, t3] <;> rfl), (by simp only [ev_c, ev_put, ↓reduceIte, Nat.reduceEqDiff, t4] <;> rfl), (by simp only [ev_c, ev_put, ↓reduceIte, Nat.reduceEqDiff, t5] <;> rfl), (by simp only [ev_c, ev_put, ↓reduceIte, Nat.reduceEqDiff, t9] <;> rfl), (by simp only [ev_c, ev_put, ↓reduceIte, Nat.reduceEqDiff, t10] <;> rfl), (by simp only [ev_c, ev_put, ↓reduceIte, Nat.reduceEqDiff, t11] <;> rfl), (by simp only [ev_c, ev_put, ↓reduceIte, Nat.reduceEqDiff, t13] <;> rfl), (by simp only [ev_c, ev_put, ↓reduceIte, Nat.reduceEqDiff, t14] <;> rfl), (by simp only [ev_c, ev_put, ↓reduceIte, Nat.reduceEqDiff, t15] <;> rfl), (by simp only [ev_c, ev_put, ↓reduceIte, Nat.reduceEqDiff, t16] <;> rfl), by rw [hstep, ek]; exact (by simp only [ev_c, ev_put, ↓reduceIte, Nat.reduceEqDiff] <;> rfl), (by simp only [ev_c, ev_put, ↓reduceIte, Nat.reduceEqDiff, t71] <;> rfl), (by simp only [ev_c, ev_put, ↓reduceIte, Nat.reduceEqDiff, t72] <;> rfl), (by simp only [ev_c, ev_put, ↓reduceIte, Nat.reduceEqDiff] <;> rfl)⟩
          · have ek : allowedK kinds[i] = !decide (3 < kinds[i]) := by rw [Bool.eq_iff_iff]; simp [allowedK]; omega
            simp (maxSteps := 1000000) (implicitDefEqProofs := false) (disch := (first | with_reducible rfl | omega | (simp only [H.next_add, H.next_set, H.next_del]; done) | (simp only [H.next_add, H.next_set, H.next_del]; omega) | fail)) only [go_sem, ↓reduceIte, Nat.reduceEqDiff, Nat.reduceAdd, Nat.reduceSub, Nat.reduceMul, reduceCtorEq, Nat.reduceLeDiff, t18, t71, t72, t73, hi', hq (nat_cst i), hcs, hn0 (by omega), encI, Bool.not_true, ka, wr_succ]
            exact ⟨_, rfl, (by simp only [ev_c, ev_put, ↓reduceIte, Nat.reduceEqDiff, t2] <;> rfl), (by simp only [ev_c, ev_put, ↓reduceIte, Nat.reduceEqDiff, t3] <;> rfl), (by simp only [ev_c, ev_put, ↓reduceIte, Nat.reduceEqDiff, t4] <;> rfl), (by simp only [ev_c, ev_put, ↓reduceIte, Nat.reduceEqDiff, t5] <;> rfl), (by simp only [ev_c, ev_put, ↓reduceIte, Nat.reduceEqDiff, t9] <;> rfl), (by simp only [ev_c, ev_put, ↓reduceIte, Nat.reduceEqDiff, t10] <;> rfl), (by simp only [ev_c, ev_put, ↓reduceIte, Nat.reduceEqDiff, t11] <;> rfl), (by simp only [ev_c, ev_put, ↓reduceIte, Nat.reduceEqDiff, t13] <;> rfl), (by simp only [ev_c, ev_put, ↓reduceIte, Nat.reduceEqDiff, t14] <;> rfl), (by simp only [ev_c, ev_put, ↓reduceIte, Nat.reduceEqDiff, t15] <;> rfl), (by simp only [ev_c, ev_put, ↓reduceIte, Nat.reduceEqDiff, t16] <;> rfl), by rw [hstep, ek, Bool.not_not]; exact (by simp only [ev_c, ev_put, ↓reduceIte, Nat.reduceEqDiff] <;> rfl), (by simp only [ev_c, ev_put, ↓reduceIte, Nat.reduceEqDiff, t71] <;> rfl), (by simp only [ev_c, ev_put, ↓reduceIte, Nat.reduceEqDiff, t72] <;> rfl), (by simp only [ev_c, ev_put, ↓reduceIte, Nat.reduceEqDiff] <;> rfl)⟩
      · rintro s ⟨tm, rfl, t2, t3, t4, t5, t9, t10, t11, t13, t14, t15, t16, t18, t71, t72, t73⟩
        rw [List.take_length] at t18
        have ee : ∀ hh : H, hh.wf → MlIs hh (.agg [.int .i64 0, .nils, .nils]) Ml.empty := fun hh hwf => (MlOwn.empty (H.Sub.refl hwf)).is (by simp [Ml.empty])
        simp (maxSteps := 1000000) (implicitDefEqProofs := false) (disch := (first | with_reducible rfl | omega | (simp only [H.next_add, H.next_set, H.next_del]; done) | (simp only [H.next_add, H.next_set, H.next_del]; omega) | fail)) only [go_sem, ↓reduceIte, Nat.reduceEqDiff, Nat.reduceAdd, Nat.reduceSub, Nat.reduceMul, reduceCtorEq, Nat.reduceLeDiff, t71, t72, t73, Int.lt_irrefl]
        have fin : ∀ e tm', splitE m lot kinds = e → e ≠ 0 → (Opd.t 2).ev tm' = .int .i64 lot → (Opd.t 3).ev tm' = K → (Opd.t 4).ev tm' = .ptr h.next 0 → (Opd.t 5).ev tm' = .ptr (h.next + 1) 0 → (Opd.t 9).ev tm' = .ptr (h4.next + 1) 0 → (Opd.t 11).ev tm' = .sl h4.next 0 kinds.length (.fix kinds.length) →
            (Opd.t 13).ev tm' = .int .i64 (weighE m y) → (Opd.t 14).ev tm' = .int .i64 e → (Opd.t 15).ev tm' = .ptr h6.next 0 → (Opd.t 16).ev tm' = .ptr (h6.next + 1) 0 → ∀ h9, h8.Sub h9 → I ⟨tm', h9, []⟩ := fun e tm' he hne a2 a3 a4 a5 a9 a11 a13 a14 a15 a16 h9 s89 => by
          have e4 : splitM m lot kinds = Ml.empty := by simp [splitM, he, hne]
          exact (hI _).2 ⟨_, _, L1, W1, .nils, .nils, rfl, s68.trans s89, a2, a3, a4, a5, a9, a11, a13, by rw [he]; exact a14, a15, a16, s89.cells k15, by rw [e4]; exact s89.cells (cells_of k16), m15.mono s89, by rw [e4]; exact ee _ s89.wf⟩
        by_cases a1 : lot < 0
        · simp (maxSteps := 1000000) (implicitDefEqProofs := false) (disch := (first | with_reducible rfl | omega | (simp only [H.next_add, H.next_set, H.next_del]; done) | (simp only [H.next_add, H.next_set, H.next_del]; omega) | fail)) only [go_sem, ↓reduceIte, Nat.reduceEqDiff, Nat.reduceAdd, Nat.reduceSub, Nat.reduceMul, reduceCtorEq, Nat.reduceLeDiff, t2, a1]
          exact ⟨rfl, fin 1 _ (by simp only [splitE, c, ne_eq, not_true_eq_false, ↓reduceIte]; rw [if_pos (by omega)]) (by omega) (by simp only [ev_c, ev_put, ↓reduceIte, Nat.reduceEqDiff, t2] <;> rfl) (by simp only [ev_c, ev_put, ↓reduceIte, Nat.reduceEqDiff, t3] <;> rfl) (by simp only [ev_c, ev_put, ↓reduceIte, Nat.reduceEqDiff, t4] <;> rfl) (by simp only [ev_c, ev_put, ↓reduceIte, Nat.reduceEqDiff, t5] <;> rfl) (by simp only [ev_c, ev_put, ↓reduceIte, Nat.reduceEqDiff, t9] <;> rfl) (by simp only [ev_c, ev_put, ↓reduceIte, Nat.reduceEqDiff, t11] <;> rfl) (by simp only [ev_c, ev_put, ↓reduceIte, Nat.reduceEqDiff, t13] <;> rfl) (by simp only [ev_c, ev_put, ↓reduceIte, Nat.reduceEqDiff] <;> rfl) (by simp only [ev_c, ev_put, ↓reduceIte, Nat.reduceEqDiff, t15] <;> rfl) (by simp only [ev_c, ev_put, ↓reduceIte, Nat.reduceEqDiff, t16] <;> rfl) _ (H.Sub.refl s68.wf)⟩
        by_cases a2 : (m.lots.length : Int) ≤ lot
        · simp (maxSteps := 1000000) (implicitDefEqProofs := false) (disch := (first | with_reducible rfl | omega | (simp only [H.next_add, H.next_set, H.next_del]; done) | (simp only [H.next_add, H.next_set, H.next_del]; omega) | fail)) only [go_sem, ↓reduceIte, Nat.reduceEqDiff, Nat.reduceAdd, Nat.reduceSub, Nat.reduceMul, reduceCtorEq, Nat.reduceLeDiff, t2, t4, a1, k1, hlenL, a2]
          exact ⟨rfl, fin 1 _ (by simp only [splitE, c, ne_eq, not_true_eq_false, ↓reduceIte]; rw [if_pos (by omega)]) (by omega) (by simp only [ev_c, ev_put, ↓reduceIte, Nat.reduceEqDiff, t2] <;> rfl) (by simp only [ev_c, ev_put, ↓reduceIte, Nat.reduceEqDiff, t3] <;> rfl) (by simp only [ev_c, ev_put, ↓reduceIte, Nat.reduceEqDiff, t4] <;> rfl) (by simp only [ev_c, ev_put, ↓reduceIte, Nat.reduceEqDiff, t5] <;> rfl) (by simp only [ev_c, ev_put, ↓reduceIte, Nat.reduceEqDiff, t9] <;> rfl) (by simp only [ev_c, ev_put, ↓reduceIte, Nat.reduceEqDiff, t11] <;> rfl) (by simp only [ev_c, ev_put, ↓reduceIte, Nat.reduceEqDiff, t13] <;> rfl) (by simp only [ev_c, ev_put, ↓reduceIte, Nat.reduceEqDiff] <;> rfl) (by simp only [ev_c, ev_put, ↓reduceIte, Nat.reduceEqDiff, t15] <;> rfl) (by simp only [ev_c, ev_put, ↓reduceIte, Nat.reduceEqDiff, t16] <;> rfl) _ (H.Sub.refl s68.wf)⟩
        have c2 : 0 ≤ lot ∧ lot ≤ (m.lots.length : Int) - 1 := by omega
        obtain ⟨n, rfl⟩ := Int.eq_ofNat_of_zero_le c2.1
        have hn : n < m.lots.length := by omega
        simp (maxSteps := 1000000) (implicitDefEqProofs := false) (disch := (first | with_reducible rfl | omega | (simp only [H.next_add, H.next_set, H.next_del]; done) | (simp only [H.next_add, H.next_set, H.next_del]; omega) | fail)) only [go_sem, ↓reduceIte, Nat.reduceEqDiff, Nat.reduceAdd, Nat.reduceSub, Nat.reduceMul, reduceCtorEq, Nat.reduceLeDiff, t2, t4, t10, a1, k1, hlenL, a2, k10]
        refine refParts_ev s68.wf hx8 g hn _ fun P h9 oP => ?_
        have s89 := oP.1
        have hpl2 := parts_len m n
        have hpl := (oP.sl (by simp only [List.length_map]; omega)).lenE
        have k1' := s89.cells k1
        by_cases c3 : 0 < ((parts m (n : Int)).length : Int)
        · simp (maxSteps := 1000000) (implicitDefEqProofs := false) (disch := (first | with_reducible rfl | omega | (simp only [H.next_add, H.next_set, H.next_del]; done) | (simp only [H.next_add, H.next_set, H.next_del]; omega) | fail)) only [go_sem, ↓reduceIte, Nat.reduceEqDiff, Nat.reduceAdd, Nat.reduceSub, Nat.reduceMul, reduceCtorEq, Nat.reduceLeDiff, hpl, c3]
          exact ⟨rfl, fin 5 _ (by simp only [splitE, c, c2, c3, ne_eq, not_true_eq_false, not_false_eq_true, and_self, ↓reduceIte]) (by omega) (by simp only [ev_c, ev_put, ↓reduceIte, Nat.reduceEqDiff, t2] <;> rfl) (by simp only [ev_c, ev_put, ↓reduceIte, Nat.reduceEqDiff, t3] <;> rfl) (by simp only [ev_c, ev_put, ↓reduceIte, Nat.reduceEqDiff, t4] <;> rfl) (by simp only [ev_c, ev_put, ↓reduceIte, Nat.reduceEqDiff, t5] <;> rfl) (by simp only [ev_c, ev_put, ↓reduceIte, Nat.reduceEqDiff, t9] <;> rfl) (by simp only [ev_c, ev_put, ↓reduceIte, Nat.reduceEqDiff, t11] <;> rfl) (by simp only [ev_c, ev_put, ↓reduceIte, Nat.reduceEqDiff, t13] <;> rfl) (by simp only [ev_c, ev_put, ↓reduceIte, Nat.reduceEqDiff] <;> rfl) (by simp only [ev_c, ev_put, ↓reduceIte, Nat.reduceEqDiff, t15] <;> rfl) (by simp only [ev_c, ev_put, ↓reduceIte, Nat.reduceEqDiff, t16] <;> rfl) _ s89⟩
        by_cases c4 : (kinds.length : Int) = 0
        · simp (maxSteps := 1000000) (implicitDefEqProofs := false) (disch := (first | with_reducible rfl | omega | (simp only [H.next_add, H.next_set, H.next_del]; done) | (simp only [H.next_add, H.next_set, H.next_del]; omega) | fail)) only [go_sem, ↓reduceIte, Nat.reduceEqDiff, Nat.reduceAdd, Nat.reduceSub, Nat.reduceMul, reduceCtorEq, Nat.reduceLeDiff, hpl, c3, t3, hlk, c4]
          exact ⟨rfl, fin 2 _ (by simp only [splitE, c, c2, c3, c4, ne_eq, not_true_eq_false, not_false_eq_true, and_self, ↓reduceIte]) (by omega) (by simp only [ev_c, ev_put, ↓reduceIte, Nat.reduceEqDiff, t2] <;> rfl) (by simp only [ev_c, ev_put, ↓reduceIte, Nat.reduceEqDiff, t3] <;> rfl) (by simp only [ev_c, ev_put, ↓reduceIte, Nat.reduceEqDiff, t4] <;> rfl) (by simp only [ev_c, ev_put, ↓reduceIte, Nat.reduceEqDiff, t5] <;> rfl) (by simp only [ev_c, ev_put, ↓reduceIte, Nat.reduceEqDiff, t9] <;> rfl) (by simp only [ev_c, ev_put, ↓reduceIte, Nat.reduceEqDiff, t11] <;> rfl) (by simp only [ev_c, ev_put, ↓reduceIte, Nat.reduceEqDiff, t13] <;> rfl) (by simp only [ev_c, ev_put, ↓reduceIte, Nat.reduceEqDiff] <;> rfl) (by simp only [ev_c, ev_put, ↓reduceIte, Nat.reduceEqDiff, t15] <;> rfl) (by simp only [ev_c, ev_put, ↓reduceIte, Nat.reduceEqDiff, t16] <;> rfl) _ s89⟩
        by_cases c5 : 12 < (m.lots.length : Int) + (kinds.length : Int)
        · simp (maxSteps := 1000000) (implicitDefEqProofs := false) (disch := (first | with_reducible rfl | omega | (simp only [H.next_add, H.next_set, H.next_del]; done) | (simp only [H.next_add, H.next_set, H.next_del]; omega) | fail)) only [go_sem, ↓reduceIte, Nat.reduceEqDiff, Nat.reduceAdd, Nat.reduceSub, Nat.reduceMul, reduceCtorEq, Nat.reduceLeDiff, hpl, c3, t3, t4, k1', hlenL, hlk, c4, wr_in, c5]
          exact ⟨rfl, fin 9 _ (by simp only [splitE, c, c2, c3, c4, c5, ne_eq, not_true_eq_false, not_false_eq_true, and_self, ↓reduceIte]) (by omega) (by simp only [ev_c, ev_put, ↓reduceIte, Nat.reduceEqDiff, t2] <;> rfl) (by simp only [ev_c, ev_put, ↓reduceIte, Nat.reduceEqDiff, t3] <;> rfl) (by simp only [ev_c, ev_put, ↓reduceIte, Nat.reduceEqDiff, t4] <;> rfl) (by simp only [ev_c, ev_put, ↓reduceIte, Nat.reduceEqDiff, t5] <;> rfl) (by simp only [ev_c, ev_put, ↓reduceIte, Nat.reduceEqDiff, t9] <;> rfl) (by simp only [ev_c, ev_put, ↓reduceIte, Nat.reduceEqDiff, t11] <;> rfl) (by simp only [ev_c, ev_put, ↓reduceIte, Nat.reduceEqDiff, t13] <;> rfl) (by simp only [ev_c, ev_put, ↓reduceIte, Nat.reduceEqDiff] <;> rfl) (by simp only [ev_c, ev_put, ↓reduceIte, Nat.reduceEqDiff, t15] <;> rfl) (by simp only [ev_c, ev_put, ↓reduceIte, Nat.reduceEqDiff, t16] <;> rfl) _ s89⟩
        cases c6 : kinds.all allowedK
        · rw [c6] at t18
          simp (maxSteps := 1000000) (implicitDefEqProofs := false) (disch := (first | with_reducible rfl | omega | (simp only [H.next_add, H.next_set, H.next_del]; done) | (simp only [H.next_add, H.next_set, H.next_del]; omega) | fail)) only [go_sem, ↓reduceIte, Nat.reduceEqDiff, Nat.reduceAdd, Nat.reduceSub, Nat.reduceMul, reduceCtorEq, Nat.reduceLeDiff, hpl, c3, t3, t4, k1', hlenL, hlk, c4, wr_in, c5, t18, Bool.not_false]
          exact ⟨rfl, fin 3 _ (by simp only [splitE, c, c2, c3, c4, c5, c6, ne_eq, not_true_eq_false, not_false_eq_true, and_self, ↓reduceIte]) (by omega) (by simp only [ev_c, ev_put, ↓reduceIte, Nat.reduceEqDiff, t2] <;> rfl) (by simp only [ev_c, ev_put, ↓reduceIte, Nat.reduceEqDiff, t3] <;> rfl) (by simp only [ev_c, ev_put, ↓reduceIte, Nat.reduceEqDiff, t4] <;> rfl) (by simp only [ev_c, ev_put, ↓reduceIte, Nat.reduceEqDiff, t5] <;> rfl) (by simp only [ev_c, ev_put, ↓reduceIte, Nat.reduceEqDiff, t9] <;> rfl) (by simp only [ev_c, ev_put, ↓reduceIte, Nat.reduceEqDiff, t11] <;> rfl) (by simp only [ev_c, ev_put, ↓reduceIte, Nat.reduceEqDiff, t13] <;> rfl) (by simp only [ev_c, ev_put, ↓reduceIte, Nat.reduceEqDiff] <;> rfl) (by simp only [ev_c, ev_put, ↓reduceIte, Nat.reduceEqDiff, t15] <;> rfl) (by simp only [ev_c, ev_put, ↓reduceIte, Nat.reduceEqDiff, t16] <;> rfl) _ s89⟩
        rw [c6] at t18
        have he : splitE m (n : Int) kinds = 0 := by simp only [splitE, c, c2, c3, c4, c5, c6, ne_eq, not_true_eq_false, not_false_eq_true, and_self, ↓reduceIte, Bool.true_eq_false]
        have hM : splitM m (n : Int) kinds = m.splitB (n : Int) kinds := by simp [splitM, he]
        simp (maxSteps := 1000000) (implicitDefEqProofs := false) (disch := (first | with_reducible rfl | omega | (simp only [H.next_add, H.next_set, H.next_del]; done) | (simp only [H.next_add, H.next_set, H.next_del]; omega) | fail)) only [go_sem, ↓reduceIte, Nat.reduceEqDiff, Nat.reduceAdd, Nat.reduceSub, Nat.reduceMul, reduceCtorEq, Nat.reduceLeDiff, hpl, c3, t3, t4, k1', hlenL, hlk, c4, wr_in, c5, t18, Bool.not_true]
        refine Own_own s89.wf (hm0.mono (s8.trans s89)) hle _ fun A2 B2 hA s9A oo hA2 hB2 => ?_
        have s8A := s89.trans s9A
        have l8A := s8A.next
        have l9A := s9A.next
        have l89 := s89.next
        have r16 := s8A.get k16
        have r15 := s8A.cells k15
        have mA15 := m15.mono s8A
        obtain ⟨A2', B2', ee, oA2, oB2, dAB⟩ := id oo
        cases ee
        have w6 := s6.wf
        have bA2 : ∀ b, blkOf A2 b → h9.next ≤ b := fun b hb => (oA2.blk hb).1
        have bB2 : ∀ b, blkOf B2 b → h9.next ≤ b ∧ b < hA.next := fun b hb => ⟨(oB2.blk hb).1, (oB2.blk hb).2.1⟩
        have sD : h6.Sub (hA.set (h6.next + 1) (.cells .rw [.int .i64 m.errs, A2, B2])) := (s68.trans s8A).set (by omega) (by omega) w6 _
        have kD := Keeps.set hA (h6.next + 1) (.cells .rw [.int .i64 m.errs, A2, B2])
        have s69 := s68.trans s89
        have oAD := (oA2.base s69).keep kD sD fun b hb e => by have := bA2 b hb; omega
        have oBD := (oB2.base s69).keep kD sD fun b hb e => by have := bB2 b hb; omega
        have offA : vOff (.agg [.int .i64 (weighM m y).errs, L1, W1]) (fun c => c = h6.next + 1) := by
          intro e L' W' e'; cases e'; exact ⟨fun b hb => (n1 b hb).1, fun b hb => (n2 b hb).1⟩
        have m15D := mA15.keep kD offA
        have g15D := kD.cells r15 (by omega)
        have gD : (hA.set (h6.next + 1) (.cells .rw [.int .i64 m.errs, A2, B2])).get (h6.next + 1) = some (.cells .rw [.int .i64 m.errs, A2, B2]) := get_set_same rfl
        have lD : (hA.set (h6.next + 1) (.cells .rw [.int .i64 m.errs, A2, B2])).next = hA.next := H.next_set _ _ _
        simp (maxSteps := 1000000) (implicitDefEqProofs := false) (disch := (first | with_reducible rfl | omega | (simp only [H.next_add, H.next_set, H.next_del]; done) | (simp only [H.next_add, H.next_set, H.next_del]; omega) | fail)) only [go_sem, ↓reduceIte, Nat.reduceEqDiff, Nat.reduceAdd, Nat.reduceSub, Nat.reduceMul, reduceCtorEq, Nat.reduceLeDiff, t3, t16, r16, hA2, hB2, cells_one hA2, cells_one hB2, hlk]
        generalize hA.set (h6.next + 1) (.cells .rw [.int .i64 m.errs, A2, B2]) = hD at sD kD oAD oBD m15D g15D gD lD ⊢
        have hk6 := hk.mono s6
        refine W_count kinds.length (fun i s => ∃ tm h' x, s = ⟨tm, h', []⟩ ∧ h6.Sub h' ∧ OwnC h6 h' x 2 ((m.splitB (n : Int) (kinds.take i)).lots.map encL) ∧ OwnC h6 h' B2 4 (m.wgs.map encW) ∧ (∀ b, blkOf x b → ¬ blkOf B2 b) ∧ (∀ b, blkOf x b → h6.next + 1 < b ∧ h9.next ≤ b) ∧ hD.next ≤ h'.next ∧
            h'.get (h6.next + 1) = some (.cells .rw [.int .i64 m.errs, x, B2]) ∧ h'.cells h6.next = some [.int .i64 (weighM m y).errs, L1, W1] ∧ MlIs h' (.agg [.int .i64 (weighM m y).errs, L1, W1]) (weighM m y) ∧
            (Opd.t 2).ev tm = .int .i64 (n : Int) ∧ (Opd.t 3).ev tm = K ∧ (Opd.t 4).ev tm = .ptr h.next 0 ∧ (Opd.t 5).ev tm = .ptr (h.next + 1) 0 ∧ (Opd.t 9).ev tm = .ptr (h4.next + 1) 0 ∧ (Opd.t 11).ev tm = .sl h4.next 0 kinds.length (.fix kinds.length) ∧
            (Opd.t 13).ev tm = .int .i64 (weighE m y) ∧ (Opd.t 14).ev tm = .int .i64 0 ∧ (Opd.t 15).ev tm = .ptr h6.next 0 ∧ (Opd.t 16).ev tm = .ptr (h6.next + 1) 0 ∧ (Opd.t 89).ev tm = K ∧ (Opd.t 90).ev tm = .int .i64 (kinds.length : Int) ∧ (Opd.t 91).ev tm = .int .i64 (i : Int))
          ?_ ?_ (i := 0) (Nat.zero_le _) ⟨_, _, A2, rfl, sD, by simpa [Ml.splitB] using oAD, oBD, dAB, fun b hb => by have := bA2 b hb; omega, Nat.le_refl _, gD, g15D, m15D, (by simp only [ev_c, ev_put, ↓reduceIte, Nat.reduceEqDiff, t2] <;> rfl), (by simp only [ev_c, ev_put, ↓reduceIte, Nat.reduceEqDiff, t3] <;> rfl), (by simp only [ev_c, ev_put, ↓reduceIte, Nat.reduceEqDiff, t4] <;> rfl), (by simp only [ev_c, ev_put, ↓reduceIte, Nat.reduceEqDiff, t5] <;> rfl), (by simp only [ev_c, ev_put, ↓reduceIte, Nat.reduceEqDiff, t9] <;> rfl), (by simp only [ev_c, ev_put, ↓reduceIte, Nat.reduceEqDiff, t11] <;> rfl), (by simp only [ev_c, ev_put, ↓reduceIte, Nat.reduceEqDiff, t13] <;> rfl), (by simp only [ev_c, ev_put, ↓reduceIte, Nat.reduceEqDiff, t14] <;> rfl), (by simp only [ev_c, ev_put, ↓reduceIte, Nat.reduceEqDiff, t15] <;> rfl), (by simp only [ev_c, ev_put, ↓reduceIte, Nat.reduceEqDiff, t16] <;> rfl), (by simp only [ev_c, ev_put, ↓reduceIte, Nat.reduceEqDiff] <;> rfl), (by simp only [ev_c, ev_put, ↓reduceIte, Nat.reduceEqDiff] <;> rfl), (by simp only [ev_c, ev_put, ↓reduceIte, Nat.reduceEqDiff] <;> rfl)⟩ <;> clear t2 t3 t4 t5 t9 t10 t11 t13 t14 t15 t16 t18 t71 t72 t73 tm
        · rintro i s hi ⟨tm, h', x, rfl, hs, ox, oY', dx, nx, lt, gd, g15, m15', t2, t3, t4, t5, t9, t11, t13, t14, t15, t16, t89, t90, t91⟩
          have hi' : (i : Int) < (kinds.length : Int) := by omega
          obtain ⟨b, o, cc, cs, rfl, hcs, hq, hgg, hnn, hn0⟩ := (hk6.mono hs).at hi
          simp (maxSteps := 1000000) (implicitDefEqProofs := false) (disch := (first | with_reducible rfl | omega | (simp only [H.next_add, H.next_set, H.next_del]; done) | (simp only [H.next_add, H.next_set, H.next_del]; omega) | fail)) only [go_sem, ↓reduceIte, Nat.reduceEqDiff, Nat.reduceAdd, Nat.reduceSub, Nat.reduceMul, reduceCtorEq, Nat.reduceLeDiff, t2, t16, t89, t90, t91, hi', hq (nat_cst i), hcs, hn0 (by omega), encI, cells_of gd]
          have sA := (H.Sub.refl hs.wf).add (.cells .rw [.int .i64 (n : Int), .int .i64 kinds[i]])
          refine (ox.mono sA).app1 (r := encL ⟨(n : Int), kinds[i]⟩) w6 rfl (by omega) (SlAt.new _ rfl rfl rfl (by simp [encL]) (by simp)) rfl (by simp [Ml.splitB]; omega) (by simp [Ml.splitB]; omega) fun Z h7 o7 dZ k7 => ?_
          have l7 := k7.1
          simp only [H.next_add] at l7
          have g7d := k7.2 _ _ (sA.get gd) fun hb => by have := nx _ hb; omega
          have s8 : h6.Sub (h7.set (h6.next + 1) (.cells .rw [.int .i64 m.errs, Z, B2])) := o7.1.set (by omega) (by omega) w6 _
          have k8 := Keeps.set h7 (h6.next + 1) (.cells .rw [.int .i64 m.errs, Z, B2])
          have nZ : ∀ b, blkOf Z b → h6.next + 1 < b ∧ h9.next ≤ b := fun b hb => by
            rcases dZ b hb with h | h
            · exact nx b h
            · simp only [H.next_add] at h; omega
          have offx : vOff (.agg [.int .i64 (weighM m y).errs, L1, W1]) (fun c => blkOf x c) := by
            intro e L' W' e'; cases e'
            exact ⟨fun b hb hx => by have := nx b hx; have := n1 b hb; omega, fun b hb hx => by have := nx b hx; have := n2 b hb; omega⟩
          simp (maxSteps := 1000000) (implicitDefEqProofs := false) (disch := (first | with_reducible rfl | omega | (simp only [H.next_add, H.next_set, H.next_del]; done) | (simp only [H.next_add, H.next_set, H.next_del]; omega) | fail)) only [go_sem, ↓reduceIte, Nat.reduceEqDiff, Nat.reduceAdd, Nat.reduceSub, Nat.reduceMul, reduceCtorEq, Nat.reduceLeDiff, t2, t16, t89, t90, t91, cells_of g7d, g7d, o7.one, cells_one o7.one, wr_succ]
          refine ⟨_, _, Z, rfl, s8, ?_, ((oY'.mono sA).keep k7 o7.1 fun b hb hx => dx b hx hb).keep k8 s8 fun b hb e => by have := bB2 b hb; omega, fun b hb hy => ?_, nZ, by rw [H.next_set]; omega, get_set_same rfl, k8.cells (k7.cells (sA.cells g15) fun hb => by have := nx _ hb; omega) (by omega), ((m15'.mono sA).keep k7 offx).keep k8 offA,
            (by simp only [ev_c, ev_put, ↓reduceIte, Nat.reduceEqDiff, t2] <;> rfl), (by simp only [ev_c, ev_put, ↓reduceIte, Nat.reduceEqDiff, t3] <;> rfl), (by simp only [ev_c, ev_put, ↓reduceIte, Nat.reduceEqDiff, t4] <;> rfl), (by simp only [ev_c, ev_put, ↓reduceIte, Nat.reduceEqDiff, t5] <;> rfl), (by simp only [ev_c, ev_put, ↓reduceIte, Nat.reduceEqDiff, t9] <;> rfl), (by simp only [ev_c, ev_put, ↓reduceIte, Nat.reduceEqDiff, t11] <;> rfl), (by simp only [ev_c, ev_put, ↓reduceIte, Nat.reduceEqDiff, t13] <;> rfl), (by simp only [ev_c, ev_put, ↓reduceIte, Nat.reduceEqDiff, t14] <;> rfl), (by simp only [ev_c, ev_put, ↓reduceIte, Nat.reduceEqDiff, t15] <;> rfl), (by simp only [ev_c, ev_put, ↓reduceIte, Nat.reduceEqDiff, t16] <;> rfl), (by simp only [ev_c, ev_put, ↓reduceIte, Nat.reduceEqDiff, t89] <;> rfl), (by simp only [ev_c, ev_put, ↓reduceIte, Nat.reduceEqDiff, t90] <;> rfl), (by simp only [ev_c, ev_put, ↓reduceIte, Nat.reduceEqDiff] <;> rfl)⟩
          · have := o7.keep k8 s8 fun b hb e => by have := nZ b hb; omega
            have e : (m.splitB (n : Int) (kinds.take (i + 1))).lots.map encL = (m.splitB (n : Int) (kinds.take i)).lots.map encL ++ [encL ⟨(n : Int), kinds[i]⟩] := by
              rw [List.take_succ_eq_append_getElem hi]
              simp only [Ml.splitB, List.map_append, List.map_cons, List.map_nil, List.append_assoc]
            rw [e]; exact this
          · rcases dZ b hb with h | h
            · exact dx b h hy
            · have := bB2 b hy; simp only [H.next_add] at h; omega
        · rintro s ⟨tm, h', x, rfl, hs, ox, oY', dx, nx, lt, gd, g15, m15', t2, t3, t4, t5, t9, t11, t13, t14, t15, t16, t89, t90, t91⟩
          rw [List.take_length] at ox
          simp (maxSteps := 1000000) (implicitDefEqProofs := false) (disch := (first | with_reducible rfl | omega | (simp only [H.next_add, H.next_set, H.next_del]; done) | (simp only [H.next_add, H.next_set, H.next_del]; omega) | fail)) only [go_sem, ↓reduceIte, Nat.reduceEqDiff, Nat.reduceAdd, Nat.reduceSub, Nat.reduceMul, reduceCtorEq, Nat.reduceLeDiff, t89, t90, t91, Int.lt_irrefl]
          exact ⟨rfl, (hI _).2 ⟨_, _, L1, W1, x, B2, rfl, hs, (by simp only [ev_c, ev_put, ↓reduceIte, Nat.reduceEqDiff, t2] <;> rfl), (by simp only [ev_c, ev_put, ↓reduceIte, Nat.reduceEqDiff, t3] <;> rfl), (by simp only [ev_c, ev_put, ↓reduceIte, Nat.reduceEqDiff, t4] <;> rfl), (by simp only [ev_c, ev_put, ↓reduceIte, Nat.reduceEqDiff, t5] <;> rfl), (by simp only [ev_c, ev_put, ↓reduceIte, Nat.reduceEqDiff, t9] <;> rfl), (by simp only [ev_c, ev_put, ↓reduceIte, Nat.reduceEqDiff, t11] <;> rfl), (by simp only [ev_c, ev_put, ↓reduceIte, Nat.reduceEqDiff, t13] <;> rfl), by rw [he]; exact (by simp only [ev_c, ev_put, ↓reduceIte, Nat.reduceEqDiff, t14] <;> rfl), (by simp only [ev_c, ev_put, ↓reduceIte, Nat.reduceEqDiff, t15] <;> rfl), (by simp only [ev_c, ev_put, ↓reduceIte, Nat.reduceEqDiff, t16] <;> rfl), g15, by rw [hM]; exact cells_of gd, m15', by
            rw [hM]
            exact ⟨x, B2, rfl, ox.sl (by simp [Ml.splitB]; omega), oY'.sl (by simp [Ml.splitB]; omega)⟩⟩⟩
  · intro c
    have e1 : weighE m y = check m := by simp [weighE, c]
    have e2 : weighM m y = Ml.empty := by simp [weighM, e1, c]
    have e3 : splitE m lot kinds = check m := by simp [splitE, c]
    have e4 : splitM m lot kinds = Ml.empty := by simp [splitM, e3, c]
    have ee : ∀ hh : H, hh.wf → MlIs hh (.agg [.int .i64 0, .nils, .nils]) Ml.empty := fun hh hwf => (MlOwn.empty (H.Sub.refl hwf)).is (by simp [Ml.empty])
    simp (maxSteps := 1000000) (implicitDefEqProofs := false) (disch := (first | with_reducible rfl | omega | (simp only [H.next_add, H.next_set, H.next_del]; done) | (simp only [H.next_add, H.next_set, H.next_del]; omega) | fail)) only [go_sem, ↓reduceIte, Nat.reduceEqDiff, Nat.reduceAdd, Nat.reduceSub, Nat.reduceMul, reduceCtorEq, Nat.reduceLeDiff]
    exact ⟨rfl, (hI _).2 ⟨_, _, .nils, .nils, .nils, .nils, rfl, s67, (by simp only [ev_c, ev_put, ↓reduceIte, Nat.reduceEqDiff] <;> rfl), (by simp only [ev_c, ev_put, ↓reduceIte, Nat.reduceEqDiff] <;> rfl), (by simp only [ev_c, ev_put, ↓reduceIte, Nat.reduceEqDiff] <;> rfl), (by simp only [ev_c, ev_put, ↓reduceIte, Nat.reduceEqDiff] <;> rfl), (by simp only [ev_c, ev_put, ↓reduceIte, Nat.reduceEqDiff] <;> rfl), (by simp only [ev_c, ev_put, ↓reduceIte, Nat.reduceEqDiff] <;> rfl), by rw [e1]; exact (by simp only [ev_c, ev_put, ↓reduceIte, Nat.reduceEqDiff] <;> rfl), by rw [e3]; exact (by simp only [ev_c, ev_put, ↓reduceIte, Nat.reduceEqDiff] <;> rfl), (by simp only [ev_c, ev_put, ↓reduceIte, Nat.reduceEqDiff] <;> rfl), (by simp only [ev_c, ev_put, ↓reduceIte, Nat.reduceEqDiff] <;> rfl), by rw [e2]; exact cells_of f15, by rw [e4]; exact cells_of f16, by rw [e2]; exact ee _ w67, by rw [e4]; exact ee _ w67⟩⟩
  · intro s hs
    obtain ⟨tm, h8, L1, W1, L2, W2, rfl, s68, t2, t3, t4, t5, t9, t11, t13, t14, t15, t16, k15, k16, m15, m16⟩ := (hI s).1 hs
    have s8 := s6.trans s68
    have n9 := s68.cells d9
    have n4 := s68.cells d1
    have nw := s68.cells dw
    simp (maxSteps := 1000000) (implicitDefEqProofs := false) (disch := (first | with_reducible rfl | omega | (simp only [H.next_add, H.next_set, H.next_del]; done) | (simp only [H.next_add, H.next_set, H.next_del]; omega) | fail)) only [go_sem, ↓reduceIte, Nat.reduceEqDiff, Nat.reduceAdd, Nat.reduceSub, Nat.reduceMul, reduceCtorEq, Nat.reduceLeDiff, t2, t3, t4, t5, t9, t11, t13, t14, t15, t16, n9, nw, encW]
    have hown8 := hown5.mono (s56.trans s68)
    refine Weigh_ev (w := y) s8.wf hown8 _ fun a h9 oa s89 => ?_
    obtain ⟨La, Wa, rfl, oLa, oWa, dab⟩ := id oa
    have p9 := s89.cells n9
    simp (maxSteps := 1000000) (implicitDefEqProofs := false) (disch := (first | with_reducible rfl | omega | (simp only [H.next_add, H.next_set, H.next_del]; done) | (simp only [H.next_add, H.next_set, H.next_del]; omega) | fail)) only [go_sem, ↓reduceIte, Nat.reduceEqDiff, Nat.reduceAdd, Nat.reduceSub, Nat.reduceMul, reduceCtorEq, Nat.reduceLeDiff, t2, t3, t4, t5, t9, t11, t13, t14, t15, t16, p9, oLa.one, oWa.one, cells_one oLa.one, cells_one oWa.one]
    have s9 := s8.trans s89
    have s9A := (H.Sub.refl s9.wf).add (.cells .rw [.int .i64 (weighM m y).errs, La, Wa])
    have gA : (h9.add (.cells .rw [.int .i64 (weighM m y).errs, La, Wa])).cells h9.next = some [.int .i64 (weighM m y).errs, La, Wa] := by simp (maxSteps := 1000000) (implicitDefEqProofs := false) (disch := (first | with_reducible rfl | omega | (simp only [H.next_add, H.next_set, H.next_del]; done) | (simp only [H.next_add, H.next_set, H.next_del]; omega) | fail)) only [go_sem, ↓reduceIte, Nat.reduceEqDiff, Nat.reduceAdd, Nat.reduceSub, Nat.reduceMul, reduceCtorEq, Nat.reduceLeDiff]
    have lA : (h9.add (.cells .rw [.int .i64 (weighM m y).errs, La, Wa])).next = h9.next + 1 := H.next_add _ _
    generalize h9.add (.cells .rw [.int .i64 (weighM m y).errs, La, Wa]) = hA' at s9A gA lA ⊢
    have sA := s9.trans s9A
    simp (maxSteps := 1000000) (implicitDefEqProofs := false) (disch := (first | with_reducible rfl | omega | (simp only [H.next_add, H.next_set, H.next_del]; done) | (simp only [H.next_add, H.next_set, H.next_del]; omega) | fail)) only [go_sem, ↓reduceIte, Nat.reduceEqDiff, Nat.reduceAdd, Nat.reduceSub, Nat.reduceMul, reduceCtorEq, Nat.reduceLeDiff, t2, t3, t4, t5, t9, t11, t13, t14, t15, t16, s9A.cells p9]
    refine Split_ev sA.wf (hown8.mono (s89.trans s9A)) (hmine5.mono (s56.trans (s68.trans (s89.trans s9A)))) (by omega) lot _ fun b hB ob sAB => ?_
    obtain ⟨Lb, Wb, rfl, oLb, oWb, dLb⟩ := id ob
    have p4 := (s89.trans (s9A.trans sAB)).cells n4
    simp (maxSteps := 1000000) (implicitDefEqProofs := false) (disch := (first | with_reducible rfl | omega | (simp only [H.next_add, H.next_set, H.next_del]; done) | (simp only [H.next_add, H.next_set, H.next_del]; omega) | fail)) only [go_sem, ↓reduceIte, Nat.reduceEqDiff, Nat.reduceAdd, Nat.reduceSub, Nat.reduceMul, reduceCtorEq, Nat.reduceLeDiff, t2, t3, t4, t5, t9, t11, t13, t14, t15, t16, oLb.one, oWb.one, cells_one oLb.one, cells_one oWb.one, ne_eq, not_true_eq_false]
    have sBC := (H.Sub.refl sAB.wf).add (.cells .rw [.int .i64 (splitM m lot kinds).errs, Lb, Wb])
    have gC : (hB.add (.cells .rw [.int .i64 (splitM m lot kinds).errs, Lb, Wb])).cells hB.next = some [.int .i64 (splitM m lot kinds).errs, Lb, Wb] := by simp (maxSteps := 1000000) (implicitDefEqProofs := false) (disch := (first | with_reducible rfl | omega | (simp only [H.next_add, H.next_set, H.next_del]; done) | (simp only [H.next_add, H.next_set, H.next_del]; omega) | fail)) only [go_sem, ↓reduceIte, Nat.reduceEqDiff, Nat.reduceAdd, Nat.reduceSub, Nat.reduceMul, reduceCtorEq, Nat.reduceLeDiff]
    have lC : (hB.add (.cells .rw [.int .i64 (splitM m lot kinds).errs, Lb, Wb])).next = hB.next + 1 := H.next_add _ _
    generalize hB.add (.cells .rw [.int .i64 (splitM m lot kinds).errs, Lb, Wb]) = hC at sBC gC lC ⊢
    have lAB := sAB.next
    have gCA : hC.cells h9.next = some [.int .i64 (weighM m y).errs, La, Wa] := (sAB.trans sBC).cells gA
    have s9C := s9A.trans (sAB.trans sBC)
    have s8C := s89.trans s9C
    have sC := s8.trans s8C
    have bLe : (m.lots.length ≤ 1000 ∧ m.wgs.length ≤ 1000) := hle
    have wLe : (weighM m y).lots.length ≤ 1000 ∧ (weighM m y).wgs.length ≤ 1000 := by
      unfold weighM
      split
      · simp only [Ml.weighed, List.length_append, List.length_singleton]
        simp only [greatM, decide_eq_false_iff_not] at hgr
        omega
      · simp [Ml.empty]
    have sLe : (splitM m lot kinds).lots.length ≤ 1000 ∧ (splitM m lot kinds).wgs.length ≤ 1000 := by
      unfold splitM
      split
      · simp only [Ml.splitB, List.length_append, List.length_map]
        simp only [greatM, decide_eq_false_iff_not] at hgr
        omega
      · simp [Ml.empty]
    simp (maxSteps := 1000000) (implicitDefEqProofs := false) (disch := (first | with_reducible rfl | omega | (simp only [H.next_add, H.next_set, H.next_del]; done) | (simp only [H.next_add, H.next_set, H.next_del]; omega) | fail)) only [go_sem, ↓reduceIte, Nat.reduceEqDiff, Nat.reduceAdd, Nat.reduceSub, Nat.reduceMul, reduceCtorEq, Nat.reduceLeDiff, t2, t3, t4, t5, t9, t11, t13, t14, t15, t16, gCA, s8C.cells k15, gC, s8C.cells k16, ne_eq, not_true_eq_false]
    refine same_ev sC.wf ((oa.mono s9C).is wLe) (m15.mono s8C) _ fun hD sCD => ?_
    simp (maxSteps := 1000000) (implicitDefEqProofs := false) (disch := (first | with_reducible rfl | omega | (simp only [H.next_add, H.next_set, H.next_del]; done) | (simp only [H.next_add, H.next_set, H.next_del]; omega) | fail)) only [go_sem, ↓reduceIte, Nat.reduceEqDiff, Nat.reduceAdd, Nat.reduceSub, Nat.reduceMul, reduceCtorEq, Nat.reduceLeDiff, t2, t3, t4, t5, t9, t11, t13, t14, t15, t16, decide_eq_true rfl, sCD.cells gC, (s8C.trans sCD).cells k16]
    refine same_ev (sC.trans sCD).wf ((ob.mono (sBC.trans sCD)).is sLe) (m16.mono (s8C.trans sCD)) _ fun hE sDE => ?_
    have sCE := sCD.trans sDE
    have eA := sCE.cells gCA
    have eC := sCE.cells gC
    have oaE := oa.mono (s9C.trans sCE)
    have obE := ob.mono (sBC.trans sCE)
    simp (maxSteps := 1000000) (implicitDefEqProofs := false) (disch := (first | with_reducible rfl | omega | (simp only [H.next_add, H.next_set, H.next_del]; done) | (simp only [H.next_add, H.next_set, H.next_del]; omega) | fail)) only [go_sem, ↓reduceIte, Nat.reduceEqDiff, Nat.reduceAdd, Nat.reduceSub, Nat.reduceMul, reduceCtorEq, Nat.reduceLeDiff, t2, t3, t4, t5, t9, t11, t13, t14, t15, t16, decide_eq_true rfl, eA, eC]
    obtain ⟨La', Wa', ea, oLaE, oWaE, dab'⟩ := oaE
    obtain ⟨Lb', Wb', eb, oLbE, oWbE, dLb'⟩ := obE
    cases ea; cases eb
    have w8 := s8.wf
    have wA := sA.wf
    have lwE := (s9C.trans sCE).next
    have lCE := sCE.next
    have l89 := s89.next
    have bLa : ∀ c, blkOf La c → h8.next ≤ c ∧ c < h9.next := fun c hc => ⟨(oLa.blk hc).1, (oLa.blk hc).2.1⟩
    have bWa : ∀ c, blkOf Wa c → h8.next ≤ c ∧ c < h9.next := fun c hc => ⟨(oWa.blk hc).1, (oWa.blk hc).2.1⟩
    have bLb : ∀ c, blkOf Lb c → hA'.next ≤ c ∧ c < hB.next := fun c hc => ⟨(oLb.blk hc).1, (oLb.blk hc).2.1⟩
    have bWb : ∀ c, blkOf Wb c → hA'.next ≤ c ∧ c < hB.next := fun c hc => ⟨(oWb.blk hc).1, (oWb.blk hc).2.1⟩
    refine OwnC.clr oLaE w8 rfl rfl fun hF s8F kF => ?_
    have oWaF := oWaE.keep kF s8F fun c hc hd => dab c hd hc
    have gFA := kF.cells eA fun hb => by have := bLa _ hb; omega
    have gFC := kF.cells eC fun hb => by have := bLa _ hb; omega
    simp (maxSteps := 1000000) (implicitDefEqProofs := false) (disch := (first | with_reducible rfl | omega | (simp only [H.next_add, H.next_set, H.next_del]; done) | (simp only [H.next_add, H.next_set, H.next_del]; omega) | fail)) only [go_sem, ↓reduceIte, Nat.reduceEqDiff, Nat.reduceAdd, Nat.reduceSub, Nat.reduceMul, reduceCtorEq, Nat.reduceLeDiff, t2, t3, t4, t5, t9, t11, t13, t14, t15, t16, gFA]
    refine OwnC.clr oWaF w8 rfl rfl fun hG s8G kG => ?_
    have gGC := kG.cells gFC fun hb => by have := bWa _ hb; omega
    simp (maxSteps := 1000000) (implicitDefEqProofs := false) (disch := (first | with_reducible rfl | omega | (simp only [H.next_add, H.next_set, H.next_del]; done) | (simp only [H.next_add, H.next_set, H.next_del]; omega) | fail)) only [go_sem, ↓reduceIte, Nat.reduceEqDiff, Nat.reduceAdd, Nat.reduceSub, Nat.reduceMul, reduceCtorEq, Nat.reduceLeDiff, t2, t3, t4, t5, t9, t11, t13, t14, t15, t16, gGC]
    have s8A := s89.trans s9A
    have oLb8 := ((oLbE.base s8A).keep kF s8F fun c hc hd => by have := bLb c hc; have := bLa c hd; omega).keep kG s8G fun c hc hd => by have := bLb c hc; have := bWa c hd; omega
    have oWb8 := ((oWbE.base s8A).keep kF s8F fun c hc hd => by have := bWb c hc; have := bLa c hd; omega).keep kG s8G fun c hc hd => by have := bWb c hc; have := bWa c hd; omega
    refine OwnC.clr oLb8 w8 rfl rfl fun hI2 s8I kI => ?_
    have gIC := kI.cells gGC fun hb => by have := bLb _ hb; omega
    have oWb9 := oWb8.keep kI s8I fun c hc hd => dLb c hd hc
    simp (maxSteps := 1000000) (implicitDefEqProofs := false) (disch := (first | with_reducible rfl | omega | (simp only [H.next_add, H.next_set, H.next_del]; done) | (simp only [H.next_add, H.next_set, H.next_del]; omega) | fail)) only [go_sem, ↓reduceIte, Nat.reduceEqDiff, Nat.reduceAdd, Nat.reduceSub, Nat.reduceMul, reduceCtorEq, Nat.reduceLeDiff, t2, t3, t4, t5, t9, t11, t13, t14, t15, t16, gIC]
    refine OwnC.clr oWb9 w8 rfl rfl fun hJ2 s8J kJ => ?_
    simp (maxSteps := 1000000) (implicitDefEqProofs := false) (disch := (first | with_reducible rfl | omega | (simp only [H.next_add, H.next_set, H.next_del]; done) | (simp only [H.next_add, H.next_set, H.next_del]; omega) | fail)) only [go_sem, ↓reduceIte, Nat.reduceEqDiff, Nat.reduceAdd, Nat.reduceSub, Nat.reduceMul, reduceCtorEq, Nat.reduceLeDiff, t2, t3, t4, t5, t9, t11, t13, t14, t15, t16, s8J.cells n9, s8J.cells n4]
    refine same_ev s8J.wf (hown8.mono s8J) (hm0.mono (s8.trans s8J)) _ fun hK sJK => ?_
    have i1 := eqKind_ev (hmine5.mono (s56.trans (s68.trans (s8J.trans sJK)))) (hk.mono (s8.trans (s8J.trans sJK)))
    simp (maxSteps := 1000000) (implicitDefEqProofs := false) (disch := (first | with_reducible rfl | omega | (simp only [H.next_add, H.next_set, H.next_del]; done) | (simp only [H.next_add, H.next_set, H.next_del]; omega) | fail)) only [go_sem, ↓reduceIte, Nat.reduceEqDiff, Nat.reduceAdd, Nat.reduceSub, Nat.reduceMul, reduceCtorEq, Nat.reduceLeDiff, t2, t3, t4, t5, t9, t11, t13, t14, t15, t16, decide_eq_true rfl, i1, awake_eq]
    exact q _ _ rfl
end Try
end Go.Ab
