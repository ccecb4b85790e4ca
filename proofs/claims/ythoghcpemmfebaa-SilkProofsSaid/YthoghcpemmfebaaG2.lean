/- What the reference says of a weighing; known, Parts, Line. awake() is not run again. Contracts of the generic functions, instance by instance (printed by a program of ours). Mills, and the contract of silk.Check. A mill at work: the contract of silk.opened. What a weighing says; parts and lines. Says, right, and the mill's own copy. The reference's Check; mills compared; the reference's mill. The reference's mill, parts, line and what it says; the program's parts and lines. Parts, lines, and what the reference says. What a weighing says: plain laws. -/
import Derived.Test.YthoghcpemmfebaaOk
import Derived.Test.YthoghcpemmfebaaAc2
import Derived.Test.YthoghcpemmfebaaAc7
set_option linter.unusedSimpArgs false
namespace Go.Ab.Try
open Go.Proofs
def fastA (f : Nat) : Option (List V → H → Option (V × H)) := match Nat.beq f 17 with
  | true => some fun args h => match args with
    | [] => some (.bool true, h)
    | _ => none
  | false => none
end Go.Ab.Try
set_option linter.unusedSimpArgs false
set_option linter.unusedVariables false
namespace Go.Ab.Try
abbrev E (fv : V) (args : List V) (h : H) (Q : V → H → Prop) : Prop := Ev fnG fastA fv args h Q
abbrev PureA (h : H) (fv : V) (args : List V) (v : V) : Prop := Pure fnG fastA h fv args v
def encI (n : Int) : List V := [.int .i64 n]
def fidx {α : Type} (p : α → Bool) : List α → Nat → Int
  | [], _ => -1
  | r :: l, i => if p r then (i : Int) else fidx p l (i + 1)
theorem fidx_hit {α : Type} {p : α → Bool} {l : List α} {i : Nat} (hi : i < l.length) (h : p l[i] = true) : fidx p (l.drop i) i = (i : Int) := by
  rw [List.drop_eq_getElem_cons hi]; simp [fidx, h]
theorem fidx_miss {α : Type} {p : α → Bool} {l : List α} {i : Nat} (hi : i < l.length) (h : p l[i] = false) : fidx p (l.drop i) i = fidx p (l.drop (i + 1)) (i + 1) := by
  rw [List.drop_eq_getElem_cons hi]; simp [fidx, h]
theorem fidx_any {α : Type} (p : α → Bool) : ∀ (l : List α) (i : Nat), decide (0 ≤ fidx p l i) = l.any p
  | [], i => by simp [fidx]
  | r :: l, i => by
    have ih := fidx_any p l (i + 1)
    simp only [fidx, List.any_cons]
    by_cases h : p r = true
    · simp [h]
    · simpa [h] using ih
theorem any_not {α : Type} (p : α → Bool) (l : List α) : (!l.any fun a => !p a) = l.all p := by
  induction l with
  | nil => rfl
  | cons a l ih => simp only [List.any_cons, List.all_cons, ← ih, Bool.not_or, Bool.not_not]

theorem indexFuncWg_ev {α : Type} {enc : α → List V} {l : List α} {p : α → Bool} {h : H} {x f : V} (hw : h.wf) (hx : SlAt h x 4 (l.map enc)) (hp : ∀ a ∈ l, PureA h f [.agg (enc a)] (.bool (p a))) :
    E (.fn 153 [] []) [x, f] h fun v h' => v = .int .i64 (fidx p l 0) ∧ h.Sub h' := by
  have hb := hx.boundE
  refine Ev_body (fd := c153) rfl rfl rfl ?_
  simp (maxSteps := 1000000) (implicitDefEqProofs := false) (disch := first | with_reducible rfl | omega | (simp only [nA, nS, nD] <;> omega) | fail) only [c153, go_sem, ↓reduceIte, Nat.reduceEqDiff, Nat.reduceAdd, Nat.reduceSub, Nat.reduceMul, reduceCtorEq, Nat.reduceLeDiff, hx.lenE]
  refine W_count l.length (fun i s => ∃ tm h', s = ⟨tm, h', []⟩ ∧ h.Sub h' ∧ (Opd.t 0).ev tm = x ∧ (Opd.t 1).ev tm = f ∧ (Opd.t 7).ev tm = .int .i64 (l.length : Int) ∧ (Opd.t 8).ev tm = .int .i64 (i : Int) ∧ fidx p l 0 = fidx p (l.drop i) i)
    ?_ ?_ (i := 0) (Nat.zero_le _) ⟨_, _, rfl, H.Sub.refl hw, (by simp [ev_c, ev_put] <;> rfl), (by simp [ev_c, ev_put] <;> rfl), (by simp [ev_c, ev_put] <;> rfl), (by simp only [ev_put]; rfl), rfl⟩
  · rintro i s hi ⟨tm, h', rfl, hs, e0, e1, e7, e8, e9⟩
    have hi' : (i : Int) < (l.length : Int) := by omega
    obtain ⟨b, o, c, cs, rfl, hc, hq, hg, hn, hn0⟩ := (hx.mono hs).at hi
    simp (maxSteps := 1000000) (implicitDefEqProofs := false) (disch := first | with_reducible rfl | omega | (simp only [nA, nS, nD] <;> omega) | fail) only [go_sem, ↓reduceIte, Nat.reduceEqDiff, Nat.reduceAdd, Nat.reduceSub, Nat.reduceMul, reduceCtorEq, Nat.reduceLeDiff, e0, e1, e7, e8, hi', hq (nat_cst i), hc, hg]
    refine (hp _ (List.getElem_mem hi)).use hs fun h2 hs2 => ?_
    cases hpr : p l[i] with
    | true =>
      simp (maxSteps := 1000000) (implicitDefEqProofs := false) (disch := first | with_reducible rfl | omega | (simp only [nA, nS, nD] <;> omega) | fail) only [go_sem, ↓reduceIte, Nat.reduceEqDiff, Nat.reduceAdd, Nat.reduceSub, Nat.reduceMul, reduceCtorEq, Nat.reduceLeDiff, e0, e1, e7, e8]
      exact ⟨by rw [e9, fidx_hit hi hpr], hs.trans hs2⟩
    | false =>
      simp (maxSteps := 1000000) (implicitDefEqProofs := false) (disch := first | with_reducible rfl | omega | (simp only [nA, nS, nD] <;> omega) | fail) only [go_sem, ↓reduceIte, Nat.reduceEqDiff, Nat.reduceAdd, Nat.reduceSub, Nat.reduceMul, reduceCtorEq, Nat.reduceLeDiff, e0, e1, e7, e8, wr_succ]
      exact ⟨_, _, rfl, hs.trans hs2, (by simp [ev_c, ev_put, e0] <;> rfl), (by simp [ev_c, ev_put, e1] <;> rfl), (by simp [ev_c, ev_put, e7] <;> rfl), (by simp [ev_c, ev_put] <;> rfl), by rw [e9, fidx_miss hi hpr]⟩
  · rintro s ⟨tm, h', rfl, hs, e0, e1, e7, e8, e9⟩
    simp (maxSteps := 1000000) (implicitDefEqProofs := false) (disch := first | with_reducible rfl | omega | (simp only [nA, nS, nD] <;> omega) | fail) only [go_sem, ↓reduceIte, Nat.reduceEqDiff, Nat.reduceAdd, Nat.reduceSub, Nat.reduceMul, reduceCtorEq, Nat.reduceLeDiff, e0, e1, e7, e8, Int.lt_irrefl]
    exact ⟨by rw [e9]; simp [fidx], hs⟩
theorem containsFuncWg_ev {α : Type} {enc : α → List V} {l : List α} {p : α → Bool} {h : H} {x f : V} (hw : h.wf) (hx : SlAt h x 4 (l.map enc)) (hp : ∀ a ∈ l, PureA h f [.agg (enc a)] (.bool (p a))) :
    E (.fn 127 [] []) [x, f] h fun v h' => v = .bool (l.any p) ∧ h.Sub h' := by
  refine Ev_body (fd := c127) rfl rfl rfl ?_
  simp (maxSteps := 1000000) (implicitDefEqProofs := false) (disch := first | with_reducible rfl | omega | (simp only [nA, nS, nD] <;> omega) | fail) only [c127, go_sem, ↓reduceIte, Nat.reduceEqDiff, Nat.reduceAdd, Nat.reduceSub, Nat.reduceMul, reduceCtorEq, Nat.reduceLeDiff]
  refine (indexFuncWg_ev hw hx hp).mono fun v h' hv => ?_
  obtain ⟨rfl, hs⟩ := hv
  simp (maxSteps := 1000000) (implicitDefEqProofs := false) (disch := first | with_reducible rfl | omega | (simp only [nA, nS, nD] <;> omega) | fail) only [go_sem, ↓reduceIte, Nat.reduceEqDiff, Nat.reduceAdd, Nat.reduceSub, Nat.reduceMul, reduceCtorEq, Nat.reduceLeDiff]
  exact ⟨by rw [fidx_any], hs⟩
theorem everyWg_ev {α : Type} {enc : α → List V} {l : List α} {p : α → Bool} {h : H} {x : V} {g : FuncId} {u w : List V} (hw : h.wf) (hx : SlAt h x 4 (l.map enc)) (hp : ∀ a ∈ l, PureA h (.fn g u w) [.agg (enc a)] (.bool (p a))) :
    E (.fn 113 [] []) [x, .fn g u w] h fun v h' => v = .bool (l.all p) ∧ h.Sub h' := by
  refine Ev_body (fd := c113) rfl rfl rfl ?_
  simp (maxSteps := 1000000) (implicitDefEqProofs := false) (disch := first | with_reducible rfl | omega | (simp only [nA, nS, nD] <;> omega) | fail) only [c113, go_sem, ↓reduceIte, Nat.reduceEqDiff, Nat.reduceAdd, Nat.reduceSub, Nat.reduceMul, reduceCtorEq, Nat.reduceLeDiff]
  have hs1 : h.Sub (h.add (.cells .rw [.fn g u w])) := (H.Sub.refl hw).add _
  refine (containsFuncWg_ev (p := fun a => !p a) hs1.wf (hx.mono hs1) fun a ha h2 hs2 => ?_).mono fun v h' hv => ?_
  · have hc : h2.cells h.next = some [.fn g u w] := hs2.cells (cells_add_new rfl)
    have hl : h.next < h2.next := by have := hs2.next; rw [H.next_add] at this; omega
    refine Ev_body (fd := c148) rfl rfl rfl ?_
    simp (maxSteps := 1000000) (implicitDefEqProofs := false) (disch := first | with_reducible rfl | omega | (simp only [nA, nS, nD] <;> omega) | fail) only [c148, go_sem, ↓reduceIte, Nat.reduceEqDiff, Nat.reduceAdd, Nat.reduceSub, Nat.reduceMul, reduceCtorEq, Nat.reduceLeDiff, hc, getN_full (hx.1 _ (List.mem_map_of_mem ha))]
    refine ((hp a ha).mono hs1).use (hs2.add _) fun h3 hs3 => ?_
    simp (maxSteps := 1000000) (implicitDefEqProofs := false) (disch := first | with_reducible rfl | omega | (simp only [nA, nS, nD] <;> omega) | fail) only [go_sem, ↓reduceIte, Nat.reduceEqDiff, Nat.reduceAdd, Nat.reduceSub, Nat.reduceMul, reduceCtorEq, Nat.reduceLeDiff]
    exact (H.Sub.refl hs2.wf).add _ |>.trans hs3
  · obtain ⟨rfl, hs⟩ := hv
    simp (maxSteps := 1000000) (implicitDefEqProofs := false) (disch := first | with_reducible rfl | omega | (simp only [nA, nS, nD] <;> omega) | fail) only [go_sem, ↓reduceIte, Nat.reduceEqDiff, Nat.reduceAdd, Nat.reduceSub, Nat.reduceMul, reduceCtorEq, Nat.reduceLeDiff]
    exact ⟨by rw [any_not], hs1.trans hs⟩

theorem indexFuncLot_ev {α : Type} {enc : α → List V} {l : List α} {p : α → Bool} {h : H} {x f : V} (hw : h.wf) (hx : SlAt h x 2 (l.map enc)) (hp : ∀ a ∈ l, PureA h f [.agg (enc a)] (.bool (p a))) :
    E (.fn 142 [] []) [x, f] h fun v h' => v = .int .i64 (fidx p l 0) ∧ h.Sub h' := by
  have hb := hx.boundE
  refine Ev_body (fd := c142) rfl rfl rfl ?_
  simp (maxSteps := 1000000) (implicitDefEqProofs := false) (disch := first | with_reducible rfl | omega | (simp only [nA, nS, nD] <;> omega) | fail) only [c142, go_sem, ↓reduceIte, Nat.reduceEqDiff, Nat.reduceAdd, Nat.reduceSub, Nat.reduceMul, reduceCtorEq, Nat.reduceLeDiff, hx.lenE]
  refine W_count l.length (fun i s => ∃ tm h', s = ⟨tm, h', []⟩ ∧ h.Sub h' ∧ (Opd.t 0).ev tm = x ∧ (Opd.t 1).ev tm = f ∧ (Opd.t 7).ev tm = .int .i64 (l.length : Int) ∧ (Opd.t 8).ev tm = .int .i64 (i : Int) ∧ fidx p l 0 = fidx p (l.drop i) i)
    ?_ ?_ (i := 0) (Nat.zero_le _) ⟨_, _, rfl, H.Sub.refl hw, (by simp [ev_c, ev_put] <;> rfl), (by simp [ev_c, ev_put] <;> rfl), (by simp [ev_c, ev_put] <;> rfl), (by simp only [ev_put]; rfl), rfl⟩
  · rintro i s hi ⟨tm, h', rfl, hs, e0, e1, e7, e8, e9⟩
    have hi' : (i : Int) < (l.length : Int) := by omega
    obtain ⟨b, o, c, cs, rfl, hc, hq, hg, hn, hn0⟩ := (hx.mono hs).at hi
    simp (maxSteps := 1000000) (implicitDefEqProofs := false) (disch := first | with_reducible rfl | omega | (simp only [nA, nS, nD] <;> omega) | fail) only [go_sem, ↓reduceIte, Nat.reduceEqDiff, Nat.reduceAdd, Nat.reduceSub, Nat.reduceMul, reduceCtorEq, Nat.reduceLeDiff, e0, e1, e7, e8, hi', hq (nat_cst i), hc, hg]
    refine (hp _ (List.getElem_mem hi)).use hs fun h2 hs2 => ?_
    cases hpr : p l[i] with
    | true =>
      simp (maxSteps := 1000000) (implicitDefEqProofs := false) (disch := first | with_reducible rfl | omega | (simp only [nA, nS, nD] <;> omega) | fail) only [go_sem, ↓reduceIte, Nat.reduceEqDiff, Nat.reduceAdd, Nat.reduceSub, Nat.reduceMul, reduceCtorEq, Nat.reduceLeDiff, e0, e1, e7, e8]
      exact ⟨by rw [e9, fidx_hit hi hpr], hs.trans hs2⟩
    | false =>
      simp (maxSteps := 1000000) (implicitDefEqProofs := false) (disch := first | with_reducible rfl | omega | (simp only [nA, nS, nD] <;> omega) | fail) only [go_sem, ↓reduceIte, Nat.reduceEqDiff, Nat.reduceAdd, Nat.reduceSub, Nat.reduceMul, reduceCtorEq, Nat.reduceLeDiff, e0, e1, e7, e8, wr_succ]
      exact ⟨_, _, rfl, hs.trans hs2, (by simp [ev_c, ev_put, e0] <;> rfl), (by simp [ev_c, ev_put, e1] <;> rfl), (by simp [ev_c, ev_put, e7] <;> rfl), (by simp [ev_c, ev_put] <;> rfl), by rw [e9, fidx_miss hi hpr]⟩
  · rintro s ⟨tm, h', rfl, hs, e0, e1, e7, e8, e9⟩
    simp (maxSteps := 1000000) (implicitDefEqProofs := false) (disch := first | with_reducible rfl | omega | (simp only [nA, nS, nD] <;> omega) | fail) only [go_sem, ↓reduceIte, Nat.reduceEqDiff, Nat.reduceAdd, Nat.reduceSub, Nat.reduceMul, reduceCtorEq, Nat.reduceLeDiff, e0, e1, e7, e8, Int.lt_irrefl]
    exact ⟨by rw [e9]; simp [fidx], hs⟩
theorem containsFuncLot_ev {α : Type} {enc : α → List V} {l : List α} {p : α → Bool} {h : H} {x f : V} (hw : h.wf) (hx : SlAt h x 2 (l.map enc)) (hp : ∀ a ∈ l, PureA h f [.agg (enc a)] (.bool (p a))) :
    E (.fn 99 [] []) [x, f] h fun v h' => v = .bool (l.any p) ∧ h.Sub h' := by
  refine Ev_body (fd := c99) rfl rfl rfl ?_
  simp (maxSteps := 1000000) (implicitDefEqProofs := false) (disch := first | with_reducible rfl | omega | (simp only [nA, nS, nD] <;> omega) | fail) only [c99, go_sem, ↓reduceIte, Nat.reduceEqDiff, Nat.reduceAdd, Nat.reduceSub, Nat.reduceMul, reduceCtorEq, Nat.reduceLeDiff]
  refine (indexFuncLot_ev hw hx hp).mono fun v h' hv => ?_
  obtain ⟨rfl, hs⟩ := hv
  simp (maxSteps := 1000000) (implicitDefEqProofs := false) (disch := first | with_reducible rfl | omega | (simp only [nA, nS, nD] <;> omega) | fail) only [go_sem, ↓reduceIte, Nat.reduceEqDiff, Nat.reduceAdd, Nat.reduceSub, Nat.reduceMul, reduceCtorEq, Nat.reduceLeDiff]
  exact ⟨by rw [fidx_any], hs⟩
theorem everyLot_ev {α : Type} {enc : α → List V} {l : List α} {p : α → Bool} {h : H} {x : V} {g : FuncId} {u w : List V} (hw : h.wf) (hx : SlAt h x 2 (l.map enc)) (hp : ∀ a ∈ l, PureA h (.fn g u w) [.agg (enc a)] (.bool (p a))) :
    E (.fn 115 [] []) [x, .fn g u w] h fun v h' => v = .bool (l.all p) ∧ h.Sub h' := by
  refine Ev_body (fd := c115) rfl rfl rfl ?_
  simp (maxSteps := 1000000) (implicitDefEqProofs := false) (disch := first | with_reducible rfl | omega | (simp only [nA, nS, nD] <;> omega) | fail) only [c115, go_sem, ↓reduceIte, Nat.reduceEqDiff, Nat.reduceAdd, Nat.reduceSub, Nat.reduceMul, reduceCtorEq, Nat.reduceLeDiff]
  have hs1 : h.Sub (h.add (.cells .rw [.fn g u w])) := (H.Sub.refl hw).add _
  refine (containsFuncLot_ev (p := fun a => !p a) hs1.wf (hx.mono hs1) fun a ha h2 hs2 => ?_).mono fun v h' hv => ?_
  · have hc : h2.cells h.next = some [.fn g u w] := hs2.cells (cells_add_new rfl)
    have hl : h.next < h2.next := by have := hs2.next; rw [H.next_add] at this; omega
    refine Ev_body (fd := c149) rfl rfl rfl ?_
    simp (maxSteps := 1000000) (implicitDefEqProofs := false) (disch := first | with_reducible rfl | omega | (simp only [nA, nS, nD] <;> omega) | fail) only [c149, go_sem, ↓reduceIte, Nat.reduceEqDiff, Nat.reduceAdd, Nat.reduceSub, Nat.reduceMul, reduceCtorEq, Nat.reduceLeDiff, hc, getN_full (hx.1 _ (List.mem_map_of_mem ha))]
    refine ((hp a ha).mono hs1).use (hs2.add _) fun h3 hs3 => ?_
    simp (maxSteps := 1000000) (implicitDefEqProofs := false) (disch := first | with_reducible rfl | omega | (simp only [nA, nS, nD] <;> omega) | fail) only [go_sem, ↓reduceIte, Nat.reduceEqDiff, Nat.reduceAdd, Nat.reduceSub, Nat.reduceMul, reduceCtorEq, Nat.reduceLeDiff]
    exact (H.Sub.refl hs2.wf).add _ |>.trans hs3
  · obtain ⟨rfl, hs⟩ := hv
    simp (maxSteps := 1000000) (implicitDefEqProofs := false) (disch := first | with_reducible rfl | omega | (simp only [nA, nS, nD] <;> omega) | fail) only [go_sem, ↓reduceIte, Nat.reduceEqDiff, Nat.reduceAdd, Nat.reduceSub, Nat.reduceMul, reduceCtorEq, Nat.reduceLeDiff]
    exact ⟨by rw [any_not], hs1.trans hs⟩

theorem indexFuncInt_ev {l : List Int} {p : Int → Bool} {h : H} {x f : V} (hw : h.wf) (hx : SlAt h x 1 (l.map encI)) (hp : ∀ a ∈ l, PureA h f [.int .i64 a] (.bool (p a))) :
    E (.fn 122 [] []) [x, f] h fun v h' => v = .int .i64 (fidx p l 0) ∧ h.Sub h' := by
  have hb := hx.boundE
  refine Ev_body (fd := c122) rfl rfl rfl ?_
  simp (maxSteps := 1000000) (implicitDefEqProofs := false) (disch := first | with_reducible rfl | omega | (simp only [nA, nS, nD] <;> omega) | fail) only [c122, go_sem, ↓reduceIte, Nat.reduceEqDiff, Nat.reduceAdd, Nat.reduceSub, Nat.reduceMul, reduceCtorEq, Nat.reduceLeDiff, hx.lenE]
  refine W_count l.length (fun i s => ∃ tm h', s = ⟨tm, h', []⟩ ∧ h.Sub h' ∧ (Opd.t 0).ev tm = x ∧ (Opd.t 1).ev tm = f ∧ (Opd.t 7).ev tm = .int .i64 (l.length : Int) ∧ (Opd.t 8).ev tm = .int .i64 (i : Int) ∧ fidx p l 0 = fidx p (l.drop i) i)
    ?_ ?_ (i := 0) (Nat.zero_le _) ⟨_, _, rfl, H.Sub.refl hw, (by simp [ev_c, ev_put] <;> rfl), (by simp [ev_c, ev_put] <;> rfl), (by simp [ev_c, ev_put] <;> rfl), (by simp only [ev_put]; rfl), rfl⟩
  · rintro i s hi ⟨tm, h', rfl, hs, e0, e1, e7, e8, e9⟩
    have hi' : (i : Int) < (l.length : Int) := by omega
    obtain ⟨b, o, c, cs, rfl, hc, hq, hg, hn, hn0⟩ := (hx.mono hs).at hi
    simp (maxSteps := 1000000) (implicitDefEqProofs := false) (disch := first | with_reducible rfl | omega | (simp only [nA, nS, nD] <;> omega) | fail) only [go_sem, ↓reduceIte, Nat.reduceEqDiff, Nat.reduceAdd, Nat.reduceSub, Nat.reduceMul, reduceCtorEq, Nat.reduceLeDiff, e0, e1, e7, e8, hi', hq (nat_cst i), hc, hn0 (by omega), encI]
    refine (hp _ (List.getElem_mem hi)).use hs fun h2 hs2 => ?_
    cases hpr : p l[i] with
    | true =>
      simp (maxSteps := 1000000) (implicitDefEqProofs := false) (disch := first | with_reducible rfl | omega | (simp only [nA, nS, nD] <;> omega) | fail) only [go_sem, ↓reduceIte, Nat.reduceEqDiff, Nat.reduceAdd, Nat.reduceSub, Nat.reduceMul, reduceCtorEq, Nat.reduceLeDiff, e0, e1, e7, e8]
      exact ⟨by rw [e9, fidx_hit hi hpr], hs.trans hs2⟩
    | false =>
      simp (maxSteps := 1000000) (implicitDefEqProofs := false) (disch := first | with_reducible rfl | omega | (simp only [nA, nS, nD] <;> omega) | fail) only [go_sem, ↓reduceIte, Nat.reduceEqDiff, Nat.reduceAdd, Nat.reduceSub, Nat.reduceMul, reduceCtorEq, Nat.reduceLeDiff, e0, e1, e7, e8, wr_succ]
      exact ⟨_, _, rfl, hs.trans hs2, (by simp [ev_c, ev_put, e0] <;> rfl), (by simp [ev_c, ev_put, e1] <;> rfl), (by simp [ev_c, ev_put, e7] <;> rfl), (by simp [ev_c, ev_put] <;> rfl), by rw [e9, fidx_miss hi hpr]⟩
  · rintro s ⟨tm, h', rfl, hs, e0, e1, e7, e8, e9⟩
    simp (maxSteps := 1000000) (implicitDefEqProofs := false) (disch := first | with_reducible rfl | omega | (simp only [nA, nS, nD] <;> omega) | fail) only [go_sem, ↓reduceIte, Nat.reduceEqDiff, Nat.reduceAdd, Nat.reduceSub, Nat.reduceMul, reduceCtorEq, Nat.reduceLeDiff, e0, e1, e7, e8, Int.lt_irrefl]
    exact ⟨by rw [e9]; simp [fidx], hs⟩
theorem containsFuncInt_ev {l : List Int} {p : Int → Bool} {h : H} {x f : V} (hw : h.wf) (hx : SlAt h x 1 (l.map encI)) (hp : ∀ a ∈ l, PureA h f [.int .i64 a] (.bool (p a))) :
    E (.fn 64 [] []) [x, f] h fun v h' => v = .bool (l.any p) ∧ h.Sub h' := by
  refine Ev_body (fd := c64) rfl rfl rfl ?_
  simp (maxSteps := 1000000) (implicitDefEqProofs := false) (disch := first | with_reducible rfl | omega | (simp only [nA, nS, nD] <;> omega) | fail) only [c64, go_sem, ↓reduceIte, Nat.reduceEqDiff, Nat.reduceAdd, Nat.reduceSub, Nat.reduceMul, reduceCtorEq, Nat.reduceLeDiff]
  refine (indexFuncInt_ev hw hx hp).mono fun v h' hv => ?_
  obtain ⟨rfl, hs⟩ := hv
  simp (maxSteps := 1000000) (implicitDefEqProofs := false) (disch := first | with_reducible rfl | omega | (simp only [nA, nS, nD] <;> omega) | fail) only [go_sem, ↓reduceIte, Nat.reduceEqDiff, Nat.reduceAdd, Nat.reduceSub, Nat.reduceMul, reduceCtorEq, Nat.reduceLeDiff]
  exact ⟨by rw [fidx_any], hs⟩
theorem everyInt_ev {l : List Int} {p : Int → Bool} {h : H} {x : V} {g : FuncId} {u w : List V} (hw : h.wf) (hx : SlAt h x 1 (l.map encI)) (hp : ∀ a ∈ l, PureA h (.fn g u w) [.int .i64 a] (.bool (p a))) :
    E (.fn 92 [] []) [x, .fn g u w] h fun v h' => v = .bool (l.all p) ∧ h.Sub h' := by
  refine Ev_body (fd := c92) rfl rfl rfl ?_
  simp (maxSteps := 1000000) (implicitDefEqProofs := false) (disch := first | with_reducible rfl | omega | (simp only [nA, nS, nD] <;> omega) | fail) only [c92, go_sem, ↓reduceIte, Nat.reduceEqDiff, Nat.reduceAdd, Nat.reduceSub, Nat.reduceMul, reduceCtorEq, Nat.reduceLeDiff]
  have hs1 : h.Sub (h.add (.cells .rw [.fn g u w])) := (H.Sub.refl hw).add _
  refine (containsFuncInt_ev (p := fun a => !p a) hs1.wf (hx.mono hs1) fun a ha h2 hs2 => ?_).mono fun v h' hv => ?_
  · have hc : h2.cells h.next = some [.fn g u w] := hs2.cells (cells_add_new rfl)
    have hl : h.next < h2.next := by have := hs2.next; rw [H.next_add] at this; omega
    refine Ev_body (fd := c137) rfl rfl rfl ?_
    simp (maxSteps := 1000000) (implicitDefEqProofs := false) (disch := first | with_reducible rfl | omega | (simp only [nA, nS, nD] <;> omega) | fail) only [c137, go_sem, ↓reduceIte, Nat.reduceEqDiff, Nat.reduceAdd, Nat.reduceSub, Nat.reduceMul, reduceCtorEq, Nat.reduceLeDiff, hc]
    refine ((hp a ha).mono hs1).use hs2 fun h3 hs3 => ?_
    simp (maxSteps := 1000000) (implicitDefEqProofs := false) (disch := first | with_reducible rfl | omega | (simp only [nA, nS, nD] <;> omega) | fail) only [go_sem, ↓reduceIte, Nat.reduceEqDiff, Nat.reduceAdd, Nat.reduceSub, Nat.reduceMul, reduceCtorEq, Nat.reduceLeDiff]
    exact hs3
  · obtain ⟨rfl, hs⟩ := hv
    simp (maxSteps := 1000000) (implicitDefEqProofs := false) (disch := first | with_reducible rfl | omega | (simp only [nA, nS, nD] <;> omega) | fail) only [go_sem, ↓reduceIte, Nat.reduceEqDiff, Nat.reduceAdd, Nat.reduceSub, Nat.reduceMul, reduceCtorEq, Nat.reduceLeDiff]
    exact ⟨by rw [any_not], hs1.trans hs⟩

theorem indexFuncSum_ev {α : Type} {enc : α → List V} {l : List α} {p : α → Bool} {h : H} {x f : V} (hw : h.wf) (hx : SlAt h x 2 (l.map enc)) (hp : ∀ a ∈ l, PureA h f [.agg (enc a)] (.bool (p a))) :
    E (.fn 159 [] []) [x, f] h fun v h' => v = .int .i64 (fidx p l 0) ∧ h.Sub h' := by
  have hb := hx.boundE
  refine Ev_body (fd := c159) rfl rfl rfl ?_
  simp (maxSteps := 1000000) (implicitDefEqProofs := false) (disch := first | with_reducible rfl | omega | (simp only [nA, nS, nD] <;> omega) | fail) only [c159, go_sem, ↓reduceIte, Nat.reduceEqDiff, Nat.reduceAdd, Nat.reduceSub, Nat.reduceMul, reduceCtorEq, Nat.reduceLeDiff, hx.lenE]
  refine W_count l.length (fun i s => ∃ tm h', s = ⟨tm, h', []⟩ ∧ h.Sub h' ∧ (Opd.t 0).ev tm = x ∧ (Opd.t 1).ev tm = f ∧ (Opd.t 7).ev tm = .int .i64 (l.length : Int) ∧ (Opd.t 8).ev tm = .int .i64 (i : Int) ∧ fidx p l 0 = fidx p (l.drop i) i)
    ?_ ?_ (i := 0) (Nat.zero_le _) ⟨_, _, rfl, H.Sub.refl hw, (by simp [ev_c, ev_put] <;> rfl), (by simp [ev_c, ev_put] <;> rfl), (by simp [ev_c, ev_put] <;> rfl), (by simp only [ev_put]; rfl), rfl⟩
  · rintro i s hi ⟨tm, h', rfl, hs, e0, e1, e7, e8, e9⟩
    have hi' : (i : Int) < (l.length : Int) := by omega
    obtain ⟨b, o, c, cs, rfl, hc, hq, hg, hn, hn0⟩ := (hx.mono hs).at hi
    simp (maxSteps := 1000000) (implicitDefEqProofs := false) (disch := first | with_reducible rfl | omega | (simp only [nA, nS, nD] <;> omega) | fail) only [go_sem, ↓reduceIte, Nat.reduceEqDiff, Nat.reduceAdd, Nat.reduceSub, Nat.reduceMul, reduceCtorEq, Nat.reduceLeDiff, e0, e1, e7, e8, hi', hq (nat_cst i), hc, hg]
    refine (hp _ (List.getElem_mem hi)).use hs fun h2 hs2 => ?_
    cases hpr : p l[i] with
    | true =>
      simp (maxSteps := 1000000) (implicitDefEqProofs := false) (disch := first | with_reducible rfl | omega | (simp only [nA, nS, nD] <;> omega) | fail) only [go_sem, ↓reduceIte, Nat.reduceEqDiff, Nat.reduceAdd, Nat.reduceSub, Nat.reduceMul, reduceCtorEq, Nat.reduceLeDiff, e0, e1, e7, e8]
      exact ⟨by rw [e9, fidx_hit hi hpr], hs.trans hs2⟩
    | false =>
      simp (maxSteps := 1000000) (implicitDefEqProofs := false) (disch := first | with_reducible rfl | omega | (simp only [nA, nS, nD] <;> omega) | fail) only [go_sem, ↓reduceIte, Nat.reduceEqDiff, Nat.reduceAdd, Nat.reduceSub, Nat.reduceMul, reduceCtorEq, Nat.reduceLeDiff, e0, e1, e7, e8, wr_succ]
      exact ⟨_, _, rfl, hs.trans hs2, (by simp [ev_c, ev_put, e0] <;> rfl), (by simp [ev_c, ev_put, e1] <;> rfl), (by simp [ev_c, ev_put, e7] <;> rfl), (by simp [ev_c, ev_put] <;> rfl), by rw [e9, fidx_miss hi hpr]⟩
  · rintro s ⟨tm, h', rfl, hs, e0, e1, e7, e8, e9⟩
    simp (maxSteps := 1000000) (implicitDefEqProofs := false) (disch := first | with_reducible rfl | omega | (simp only [nA, nS, nD] <;> omega) | fail) only [go_sem, ↓reduceIte, Nat.reduceEqDiff, Nat.reduceAdd, Nat.reduceSub, Nat.reduceMul, reduceCtorEq, Nat.reduceLeDiff, e0, e1, e7, e8, Int.lt_irrefl]
    exact ⟨by rw [e9]; simp [fidx], hs⟩
theorem containsFuncSum_ev {α : Type} {enc : α → List V} {l : List α} {p : α → Bool} {h : H} {x f : V} (hw : h.wf) (hx : SlAt h x 2 (l.map enc)) (hp : ∀ a ∈ l, PureA h f [.agg (enc a)] (.bool (p a))) :
    E (.fn 154 [] []) [x, f] h fun v h' => v = .bool (l.any p) ∧ h.Sub h' := by
  refine Ev_body (fd := c154) rfl rfl rfl ?_
  simp (maxSteps := 1000000) (implicitDefEqProofs := false) (disch := first | with_reducible rfl | omega | (simp only [nA, nS, nD] <;> omega) | fail) only [c154, go_sem, ↓reduceIte, Nat.reduceEqDiff, Nat.reduceAdd, Nat.reduceSub, Nat.reduceMul, reduceCtorEq, Nat.reduceLeDiff]
  refine (indexFuncSum_ev hw hx hp).mono fun v h' hv => ?_
  obtain ⟨rfl, hs⟩ := hv
  simp (maxSteps := 1000000) (implicitDefEqProofs := false) (disch := first | with_reducible rfl | omega | (simp only [nA, nS, nD] <;> omega) | fail) only [go_sem, ↓reduceIte, Nat.reduceEqDiff, Nat.reduceAdd, Nat.reduceSub, Nat.reduceMul, reduceCtorEq, Nat.reduceLeDiff]
  exact ⟨by rw [fidx_any], hs⟩
theorem everySum_ev {α : Type} {enc : α → List V} {l : List α} {p : α → Bool} {h : H} {x : V} {g : FuncId} {u w : List V} (hw : h.wf) (hx : SlAt h x 2 (l.map enc)) (hp : ∀ a ∈ l, PureA h (.fn g u w) [.agg (enc a)] (.bool (p a))) :
    E (.fn 135 [] []) [x, .fn g u w] h fun v h' => v = .bool (l.all p) ∧ h.Sub h' := by
  refine Ev_body (fd := c135) rfl rfl rfl ?_
  simp (maxSteps := 1000000) (implicitDefEqProofs := false) (disch := first | with_reducible rfl | omega | (simp only [nA, nS, nD] <;> omega) | fail) only [c135, go_sem, ↓reduceIte, Nat.reduceEqDiff, Nat.reduceAdd, Nat.reduceSub, Nat.reduceMul, reduceCtorEq, Nat.reduceLeDiff]
  have hs1 : h.Sub (h.add (.cells .rw [.fn g u w])) := (H.Sub.refl hw).add _
  refine (containsFuncSum_ev (p := fun a => !p a) hs1.wf (hx.mono hs1) fun a ha h2 hs2 => ?_).mono fun v h' hv => ?_
  · have hc : h2.cells h.next = some [.fn g u w] := hs2.cells (cells_add_new rfl)
    have hl : h.next < h2.next := by have := hs2.next; rw [H.next_add] at this; omega
    refine Ev_body (fd := c155) rfl rfl rfl ?_
    simp (maxSteps := 1000000) (implicitDefEqProofs := false) (disch := first | with_reducible rfl | omega | (simp only [nA, nS, nD] <;> omega) | fail) only [c155, go_sem, ↓reduceIte, Nat.reduceEqDiff, Nat.reduceAdd, Nat.reduceSub, Nat.reduceMul, reduceCtorEq, Nat.reduceLeDiff, hc, getN_full (hx.1 _ (List.mem_map_of_mem ha))]
    refine ((hp a ha).mono hs1).use (hs2.add _) fun h3 hs3 => ?_
    simp (maxSteps := 1000000) (implicitDefEqProofs := false) (disch := first | with_reducible rfl | omega | (simp only [nA, nS, nD] <;> omega) | fail) only [go_sem, ↓reduceIte, Nat.reduceEqDiff, Nat.reduceAdd, Nat.reduceSub, Nat.reduceMul, reduceCtorEq, Nat.reduceLeDiff]
    exact (H.Sub.refl hs2.wf).add _ |>.trans hs3
  · obtain ⟨rfl, hs⟩ := hv
    simp (maxSteps := 1000000) (implicitDefEqProofs := false) (disch := first | with_reducible rfl | omega | (simp only [nA, nS, nD] <;> omega) | fail) only [go_sem, ↓reduceIte, Nat.reduceEqDiff, Nat.reduceAdd, Nat.reduceSub, Nat.reduceMul, reduceCtorEq, Nat.reduceLeDiff]
    exact ⟨by rw [any_not], hs1.trans hs⟩

theorem equalInt_ev {l r : List (Int)} {h : H} {x y : V} (hx : SlAt h x 1 (l.map encI)) (hy : SlAt h y 1 (r.map encI)) :
    E (.fn 95 [] []) [x, y] h fun v h' => v = .bool (decide (l = r)) ∧ h' = h := by
  have hb := hx.boundE
  refine Ev_body (fd := c95) rfl rfl rfl ?_
  by_cases hl : l.length = r.length
  · have hl' : (l.length : Int) = (r.length : Int) := by omega
    simp (maxSteps := 1000000) (implicitDefEqProofs := false) (disch := first | with_reducible rfl | omega | (simp only [nA, nS, nD] <;> omega) | fail) only [c95, go_sem, ↓reduceIte, Nat.reduceEqDiff, Nat.reduceAdd, Nat.reduceSub, Nat.reduceMul, reduceCtorEq, Nat.reduceLeDiff, hx.lenE, hy.lenE, hl', ne_eq, not_true_eq_false]
    refine W_count l.length (fun i s => ∃ tm, s = ⟨tm, h, []⟩ ∧ (Opd.t 0).ev tm = x ∧ (Opd.t 1).ev tm = y ∧ (Opd.t 12).ev tm = .int .i64 (l.length : Int) ∧ (Opd.t 13).ev tm = .int .i64 (i : Int) ∧ l.take i = r.take i)
      ?_ ?_ (i := 0) (Nat.zero_le _) ⟨_, rfl, (by simp [ev_c, ev_put] <;> rfl), (by simp [ev_c, ev_put] <;> rfl), (by simp only [ev_put, ↓reduceIte, Nat.reduceEqDiff, hl]), (by simp only [ev_put]; rfl), rfl⟩
    · rintro i s hi ⟨tm, rfl, e0, e1, e12, e13, e9⟩
      have hi' : (i : Int) < (l.length : Int) := by omega
      have hi2 : i < r.length := by omega
      obtain ⟨b, o, c, cs, rfl, hc, hq, hg, hn, hn0⟩ := hx.at hi
      obtain ⟨b2, o2, c2, cs2, rfl, hc2, hq2, hg2, hn2, hn02⟩ := hy.at hi2
      have h1 : (l[i] = r[i]) ↔ l.take (i + 1) = r.take (i + 1) := by
        rw [List.take_succ_eq_append_getElem hi, List.take_succ_eq_append_getElem hi2, e9]; simp only [List.append_cancel_left_eq, List.cons.injEq, and_true]
      -- have hf := q_feq_map l[i] r[i] (n := 1) (by simpa using hx.1 _ (List.mem_map_of_mem (List.getElem_mem hi))) (by simpa using hy.1 _ (List.mem_map_of_mem (List.getElem_mem hi2))) true
      by_cases he : l[i] = r[i]
      · have hl0 := hl
        simp (maxSteps := 1000000) (implicitDefEqProofs := false) (disch := first | with_reducible rfl | omega | (simp only [nA, nS, nD] <;> omega) | fail) only [go_sem, ↓reduceIte, Nat.reduceEqDiff, Nat.reduceAdd, Nat.reduceSub, Nat.reduceMul, reduceCtorEq, Nat.reduceLeDiff, e0, e1, e12, e13, hi', hq (nat_cst i), hq2 (nat_cst i), hc, hc2, hg, hg2, hn0 (by omega), hn02 (by omega), encI, he, ngB, ne_eq, not_true_eq_false, not_false_eq_true, wr_succ]
        exact ⟨_, rfl, (by simp [ev_c, ev_put, e0] <;> rfl), (by simp [ev_c, ev_put, e1] <;> rfl), (by simp [ev_c, ev_put, e12] <;> rfl), (by simp [ev_c, ev_put] <;> rfl), h1.1 he⟩
      · simp (maxSteps := 1000000) (implicitDefEqProofs := false) (disch := first | with_reducible rfl | omega | (simp only [nA, nS, nD] <;> omega) | fail) only [go_sem, ↓reduceIte, Nat.reduceEqDiff, Nat.reduceAdd, Nat.reduceSub, Nat.reduceMul, reduceCtorEq, Nat.reduceLeDiff, e0, e1, e12, e13, hi', hq (nat_cst i), hq2 (nat_cst i), hc, hc2, hg, hg2, hn0 (by omega), hn02 (by omega), encI, he, ngB, ne_eq, not_true_eq_false, not_false_eq_true, wr_succ]
        rw [decide_eq_false]
        intro e; exact he (h1.2 (by rw [e]))
    · rintro s ⟨tm, rfl, e0, e1, e12, e13, e9⟩
      simp (maxSteps := 1000000) (implicitDefEqProofs := false) (disch := first | with_reducible rfl | omega | (simp only [nA, nS, nD] <;> omega) | fail) only [go_sem, ↓reduceIte, Nat.reduceEqDiff, Nat.reduceAdd, Nat.reduceSub, Nat.reduceMul, reduceCtorEq, Nat.reduceLeDiff, e0, e1, e12, e13, Int.lt_irrefl]
      rw [decide_eq_true]
      rw [List.take_length, hl, List.take_length] at e9; exact e9
  · have hl' : ¬ (l.length : Int) = (r.length : Int) := by omega
    simp (maxSteps := 1000000) (implicitDefEqProofs := false) (disch := first | with_reducible rfl | omega | (simp only [nA, nS, nD] <;> omega) | fail) only [c95, go_sem, ↓reduceIte, Nat.reduceEqDiff, Nat.reduceAdd, Nat.reduceSub, Nat.reduceMul, reduceCtorEq, Nat.reduceLeDiff, hx.lenE, hy.lenE, hl', ne_eq, not_false_eq_true]
    rw [decide_eq_false]
    intro e; exact hl (by rw [e])
theorem eqInt_ev {l r : List (Int)} {h : H} {x y : V} (hx : SlAt h x 1 (l.map encI)) (hy : SlAt h y 1 (r.map encI)) (Q : V → H → Prop) :
    Ev fnG fastA (.fn 31 [] []) [x, y] h Q = Q (.bool (decide (l = r))) h := by
  refine Ev.det (Ev_body (fd := c31) rfl rfl rfl ?_) Q
  simp (maxSteps := 1000000) (implicitDefEqProofs := false) (disch := first | with_reducible rfl | omega | (simp only [nA, nS, nD] <;> omega) | fail) only [c31, go_sem, ↓reduceIte, Nat.reduceEqDiff, Nat.reduceAdd, Nat.reduceSub, Nat.reduceMul, reduceCtorEq, Nat.reduceLeDiff]
  refine (equalInt_ev hx hy).mono fun v h' hv => ?_
  obtain ⟨rfl, rfl⟩ := hv
  simp (maxSteps := 1000000) (implicitDefEqProofs := false) (disch := first | with_reducible rfl | omega | (simp only [nA, nS, nD] <;> omega) | fail) only [go_sem, ↓reduceIte, Nat.reduceEqDiff, Nat.reduceAdd, Nat.reduceSub, Nat.reduceMul, reduceCtorEq, Nat.reduceLeDiff]

theorem equalLot_ev {l r : List (List Int)} {h : H} {x y : V} (hx : SlAt h x 2 (l.map (List.map iv))) (hy : SlAt h y 2 (r.map (List.map iv))) :
    E (.fn 132 [] []) [x, y] h fun v h' => v = .bool (decide (l = r)) ∧ h' = h := by
  have hb := hx.boundE
  refine Ev_body (fd := c132) rfl rfl rfl ?_
  by_cases hl : l.length = r.length
  · have hl' : (l.length : Int) = (r.length : Int) := by omega
    simp (maxSteps := 1000000) (implicitDefEqProofs := false) (disch := first | with_reducible rfl | omega | (simp only [nA, nS, nD] <;> omega) | fail) only [c132, go_sem, ↓reduceIte, Nat.reduceEqDiff, Nat.reduceAdd, Nat.reduceSub, Nat.reduceMul, reduceCtorEq, Nat.reduceLeDiff, hx.lenE, hy.lenE, hl', ne_eq, not_true_eq_false]
    refine W_count l.length (fun i s => ∃ tm, s = ⟨tm, h, []⟩ ∧ (Opd.t 0).ev tm = x ∧ (Opd.t 1).ev tm = y ∧ (Opd.t 12).ev tm = .int .i64 (l.length : Int) ∧ (Opd.t 13).ev tm = .int .i64 (i : Int) ∧ l.take i = r.take i)
      ?_ ?_ (i := 0) (Nat.zero_le _) ⟨_, rfl, (by simp [ev_c, ev_put] <;> rfl), (by simp [ev_c, ev_put] <;> rfl), (by simp only [ev_put, ↓reduceIte, Nat.reduceEqDiff, hl]), (by simp only [ev_put]; rfl), rfl⟩
    · rintro i s hi ⟨tm, rfl, e0, e1, e12, e13, e9⟩
      have hi' : (i : Int) < (l.length : Int) := by omega
      have hi2 : i < r.length := by omega
      obtain ⟨b, o, c, cs, rfl, hc, hq, hg, hn, hn0⟩ := hx.at hi
      obtain ⟨b2, o2, c2, cs2, rfl, hc2, hq2, hg2, hn2, hn02⟩ := hy.at hi2
      have h1 : (l[i] = r[i]) ↔ l.take (i + 1) = r.take (i + 1) := by
        rw [List.take_succ_eq_append_getElem hi, List.take_succ_eq_append_getElem hi2, e9]; simp only [List.append_cancel_left_eq, List.cons.injEq, and_true]
      have hf := q_feq_map l[i] r[i] (n := 2) (by simpa using hx.1 _ (List.mem_map_of_mem (List.getElem_mem hi))) (by simpa using hy.1 _ (List.mem_map_of_mem (List.getElem_mem hi2))) true
      by_cases he : l[i] = r[i]
      · rw [he] at hf
        simp (maxSteps := 1000000) (implicitDefEqProofs := false) (disch := first | with_reducible rfl | omega | (simp only [nA, nS, nD] <;> omega) | fail) only [go_sem, ↓reduceIte, Nat.reduceEqDiff, Nat.reduceAdd, Nat.reduceSub, Nat.reduceMul, reduceCtorEq, Nat.reduceLeDiff, e0, e1, e12, e13, hi', hq (nat_cst i), hq2 (nat_cst i), hc, hc2, hg, hg2, hf, he, ngB, wr_succ]
        exact ⟨_, rfl, (by simp [ev_c, ev_put, e0] <;> rfl), (by simp [ev_c, ev_put, e1] <;> rfl), (by simp [ev_c, ev_put, e12] <;> rfl), (by simp [ev_c, ev_put] <;> rfl), h1.1 he⟩
      · simp (maxSteps := 1000000) (implicitDefEqProofs := false) (disch := first | with_reducible rfl | omega | (simp only [nA, nS, nD] <;> omega) | fail) only [go_sem, ↓reduceIte, Nat.reduceEqDiff, Nat.reduceAdd, Nat.reduceSub, Nat.reduceMul, reduceCtorEq, Nat.reduceLeDiff, e0, e1, e12, e13, hi', hq (nat_cst i), hq2 (nat_cst i), hc, hc2, hg, hg2, hf, he, ngB, wr_succ]
        rw [decide_eq_false]
        intro e; exact he (h1.2 (by rw [e]))
    · rintro s ⟨tm, rfl, e0, e1, e12, e13, e9⟩
      simp (maxSteps := 1000000) (implicitDefEqProofs := false) (disch := first | with_reducible rfl | omega | (simp only [nA, nS, nD] <;> omega) | fail) only [go_sem, ↓reduceIte, Nat.reduceEqDiff, Nat.reduceAdd, Nat.reduceSub, Nat.reduceMul, reduceCtorEq, Nat.reduceLeDiff, e0, e1, e12, e13, Int.lt_irrefl]
      rw [decide_eq_true]
      rw [List.take_length, hl, List.take_length] at e9; exact e9
  · have hl' : ¬ (l.length : Int) = (r.length : Int) := by omega
    simp (maxSteps := 1000000) (implicitDefEqProofs := false) (disch := first | with_reducible rfl | omega | (simp only [nA, nS, nD] <;> omega) | fail) only [c132, go_sem, ↓reduceIte, Nat.reduceEqDiff, Nat.reduceAdd, Nat.reduceSub, Nat.reduceMul, reduceCtorEq, Nat.reduceLeDiff, hx.lenE, hy.lenE, hl', ne_eq, not_false_eq_true]
    rw [decide_eq_false]
    intro e; exact hl (by rw [e])
theorem eqLot_ev {l r : List (List Int)} {h : H} {x y : V} (hx : SlAt h x 2 (l.map (List.map iv))) (hy : SlAt h y 2 (r.map (List.map iv))) (Q : V → H → Prop) :
    Ev fnG fastA (.fn 83 [] []) [x, y] h Q = Q (.bool (decide (l = r))) h := by
  refine Ev.det (Ev_body (fd := c83) rfl rfl rfl ?_) Q
  simp (maxSteps := 1000000) (implicitDefEqProofs := false) (disch := first | with_reducible rfl | omega | (simp only [nA, nS, nD] <;> omega) | fail) only [c83, go_sem, ↓reduceIte, Nat.reduceEqDiff, Nat.reduceAdd, Nat.reduceSub, Nat.reduceMul, reduceCtorEq, Nat.reduceLeDiff]
  refine (equalLot_ev hx hy).mono fun v h' hv => ?_
  obtain ⟨rfl, rfl⟩ := hv
  simp (maxSteps := 1000000) (implicitDefEqProofs := false) (disch := first | with_reducible rfl | omega | (simp only [nA, nS, nD] <;> omega) | fail) only [go_sem, ↓reduceIte, Nat.reduceEqDiff, Nat.reduceAdd, Nat.reduceSub, Nat.reduceMul, reduceCtorEq, Nat.reduceLeDiff]

theorem equalWg_ev {l r : List (List Int)} {h : H} {x y : V} (hx : SlAt h x 4 (l.map (List.map iv))) (hy : SlAt h y 4 (r.map (List.map iv))) :
    E (.fn 133 [] []) [x, y] h fun v h' => v = .bool (decide (l = r)) ∧ h' = h := by
  have hb := hx.boundE
  refine Ev_body (fd := c133) rfl rfl rfl ?_
  by_cases hl : l.length = r.length
  · have hl' : (l.length : Int) = (r.length : Int) := by omega
    simp (maxSteps := 1000000) (implicitDefEqProofs := false) (disch := first | with_reducible rfl | omega | (simp only [nA, nS, nD] <;> omega) | fail) only [c133, go_sem, ↓reduceIte, Nat.reduceEqDiff, Nat.reduceAdd, Nat.reduceSub, Nat.reduceMul, reduceCtorEq, Nat.reduceLeDiff, hx.lenE, hy.lenE, hl', ne_eq, not_true_eq_false]
    refine W_count l.length (fun i s => ∃ tm, s = ⟨tm, h, []⟩ ∧ (Opd.t 0).ev tm = x ∧ (Opd.t 1).ev tm = y ∧ (Opd.t 12).ev tm = .int .i64 (l.length : Int) ∧ (Opd.t 13).ev tm = .int .i64 (i : Int) ∧ l.take i = r.take i)
      ?_ ?_ (i := 0) (Nat.zero_le _) ⟨_, rfl, (by simp [ev_c, ev_put] <;> rfl), (by simp [ev_c, ev_put] <;> rfl), (by simp only [ev_put, ↓reduceIte, Nat.reduceEqDiff, hl]), (by simp only [ev_put]; rfl), rfl⟩
    · rintro i s hi ⟨tm, rfl, e0, e1, e12, e13, e9⟩
      have hi' : (i : Int) < (l.length : Int) := by omega
      have hi2 : i < r.length := by omega
      obtain ⟨b, o, c, cs, rfl, hc, hq, hg, hn, hn0⟩ := hx.at hi
      obtain ⟨b2, o2, c2, cs2, rfl, hc2, hq2, hg2, hn2, hn02⟩ := hy.at hi2
      have h1 : (l[i] = r[i]) ↔ l.take (i + 1) = r.take (i + 1) := by
        rw [List.take_succ_eq_append_getElem hi, List.take_succ_eq_append_getElem hi2, e9]; simp only [List.append_cancel_left_eq, List.cons.injEq, and_true]
      have hf := q_feq_map l[i] r[i] (n := 4) (by simpa using hx.1 _ (List.mem_map_of_mem (List.getElem_mem hi))) (by simpa using hy.1 _ (List.mem_map_of_mem (List.getElem_mem hi2))) true
      by_cases he : l[i] = r[i]
      · rw [he] at hf
        simp (maxSteps := 1000000) (implicitDefEqProofs := false) (disch := first | with_reducible rfl | omega | (simp only [nA, nS, nD] <;> omega) | fail) only [go_sem, ↓reduceIte, Nat.reduceEqDiff, Nat.reduceAdd, Nat.reduceSub, Nat.reduceMul, reduceCtorEq, Nat.reduceLeDiff, e0, e1, e12, e13, hi', hq (nat_cst i), hq2 (nat_cst i), hc, hc2, hg, hg2, hf, he, ngB, wr_succ]
        exact ⟨_, rfl, (by simp [ev_c, ev_put, e0] <;> rfl), (by simp [ev_c, ev_put, e1] <;> rfl), (by simp [ev_c, ev_put, e12] <;> rfl), (by simp [ev_c, ev_put] <;> rfl), h1.1 he⟩
      · simp (maxSteps := 1000000) (implicitDefEqProofs := false) (disch := first | with_reducible rfl | omega | (simp only [nA, nS, nD] <;> omega) | fail) only [go_sem, ↓reduceIte, Nat.reduceEqDiff, Nat.reduceAdd, Nat.reduceSub, Nat.reduceMul, reduceCtorEq, Nat.reduceLeDiff, e0, e1, e12, e13, hi', hq (nat_cst i), hq2 (nat_cst i), hc, hc2, hg, hg2, hf, he, ngB, wr_succ]
        rw [decide_eq_false]
        intro e; exact he (h1.2 (by rw [e]))
    · rintro s ⟨tm, rfl, e0, e1, e12, e13, e9⟩
      simp (maxSteps := 1000000) (implicitDefEqProofs := false) (disch := first | with_reducible rfl | omega | (simp only [nA, nS, nD] <;> omega) | fail) only [go_sem, ↓reduceIte, Nat.reduceEqDiff, Nat.reduceAdd, Nat.reduceSub, Nat.reduceMul, reduceCtorEq, Nat.reduceLeDiff, e0, e1, e12, e13, Int.lt_irrefl]
      rw [decide_eq_true]
      rw [List.take_length, hl, List.take_length] at e9; exact e9
  · have hl' : ¬ (l.length : Int) = (r.length : Int) := by omega
    simp (maxSteps := 1000000) (implicitDefEqProofs := false) (disch := first | with_reducible rfl | omega | (simp only [nA, nS, nD] <;> omega) | fail) only [c133, go_sem, ↓reduceIte, Nat.reduceEqDiff, Nat.reduceAdd, Nat.reduceSub, Nat.reduceMul, reduceCtorEq, Nat.reduceLeDiff, hx.lenE, hy.lenE, hl', ne_eq, not_false_eq_true]
    rw [decide_eq_false]
    intro e; exact hl (by rw [e])
theorem eqWg_ev {l r : List (List Int)} {h : H} {x y : V} (hx : SlAt h x 4 (l.map (List.map iv))) (hy : SlAt h y 4 (r.map (List.map iv))) (Q : V → H → Prop) :
    Ev fnG fastA (.fn 84 [] []) [x, y] h Q = Q (.bool (decide (l = r))) h := by
  refine Ev.det (Ev_body (fd := c84) rfl rfl rfl ?_) Q
  simp (maxSteps := 1000000) (implicitDefEqProofs := false) (disch := first | with_reducible rfl | omega | (simp only [nA, nS, nD] <;> omega) | fail) only [c84, go_sem, ↓reduceIte, Nat.reduceEqDiff, Nat.reduceAdd, Nat.reduceSub, Nat.reduceMul, reduceCtorEq, Nat.reduceLeDiff]
  refine (equalWg_ev hx hy).mono fun v h' hv => ?_
  obtain ⟨rfl, rfl⟩ := hv
  simp (maxSteps := 1000000) (implicitDefEqProofs := false) (disch := first | with_reducible rfl | omega | (simp only [nA, nS, nD] <;> omega) | fail) only [go_sem, ↓reduceIte, Nat.reduceEqDiff, Nat.reduceAdd, Nat.reduceSub, Nat.reduceMul, reduceCtorEq, Nat.reduceLeDiff]
end Go.Ab.Try
set_option linter.unusedSimpArgs false
set_option linter.unusedVariables false
namespace Go.Ab.Try
structure Wg where
  lot : Int
  reads : Int
  lo : Int
  hi : Int
structure Lt where
  frm : Int
  kind : Int
structure Ml where
  errs : Int
  lots : List Lt
  wgs : List Wg
def encW (w : Wg) : List V := [.int .i64 w.lot, .int .i64 w.reads, .int .i64 w.lo, .int .i64 w.hi]
def encL (l : Lt) : List V := [.int .i64 l.frm, .int .i64 l.kind]
def MlIs (h : H) (v : V) (m : Ml) : Prop := ∃ L W, v = .agg [.int .i64 m.errs, L, W] ∧ SlAt h L 2 (m.lots.map encL) ∧ SlAt h W 4 (m.wgs.map encW)
theorem MlIs.mono {h h' : H} (hs : h.Sub h') {v : V} {m : Ml} (a : MlIs h v m) : MlIs h' v m := by
  obtain ⟨L, W, e, a1, a2⟩ := a; exact ⟨L, W, e, a1.mono hs, a2.mono hs⟩

def inB (n lo hi : Int) : Bool := decide (lo ≤ n ∧ n ≤ hi)
def boundedW (w : Wg) : Bool := decide ((0 ≤ w.reads ∧ w.reads ≤ 10000) ∧ (0 ≤ w.lo ∧ w.lo ≤ 60) ∧ (0 ≤ w.hi ∧ w.hi ≤ 60))
def allowedK (k : Int) : Bool := decide (0 ≤ k ∧ k ≤ 3)
def fromsOk : List Lt → Nat → Bool
  | [], _ => true
  | l :: r, i => decide (-1 ≤ l.frm ∧ l.frm ≤ (i : Int) - 1) && fromsOk r (i + 1)
def check (m : Ml) : Int :=
  if ¬ (1 ≤ (m.lots.length : Int) ∧ (m.lots.length : Int) ≤ 12) then 2
  else if 10 < (m.wgs.length : Int) then 2
  else if ¬ (0 ≤ m.errs ∧ m.errs ≤ 50) then 3
  else if m.wgs.all boundedW = false then 3
  else if m.lots.all (fun l => allowedK l.kind) = false then 3
  else if fromsOk m.lots 0 = false then 1
  else if m.wgs.all (fun w => inB w.lot 0 ((m.lots.length : Int) - 1)) = false then 1
  else if m.wgs.all (fun w => decide (w.lo ≤ w.hi)) = false then 4
  else 0

theorem in_ev (n lo hi : Int) (h : H) (Q : V → H → Prop) : Ev fnG fastA (.fn 112 [] []) [.int .i64 n, .int .i64 lo, .int .i64 hi] h Q = Q (.bool (decide (lo ≤ n ∧ n ≤ hi))) h := by
  refine Ev.det (Ev_body (fd := c112) rfl rfl rfl ?_) Q
  by_cases h1 : lo ≤ n
  · simp only [c112, go_sem, ↓reduceIte, Nat.reduceEqDiff, Nat.reduceAdd, Nat.reduceSub, Nat.reduceMul, reduceCtorEq, Nat.reduceLeDiff, h1]
  · simp only [c112, go_sem, ↓reduceIte, Nat.reduceEqDiff, Nat.reduceAdd, Nat.reduceSub, Nat.reduceMul, reduceCtorEq, Nat.reduceLeDiff, h1, false_and]
theorem allowed_ev (k : Int) (h : H) (Q : V → H → Prop) : Ev fnG fastA (.fn 78 [] []) [.int .i64 k] h Q = Q (.bool (allowedK k)) h := by
  refine Ev.det (Ev_body (fd := c78) rfl rfl rfl ?_) Q
  by_cases h1 : 0 ≤ k
  · simp only [c78, go_sem, ↓reduceIte, Nat.reduceEqDiff, Nat.reduceAdd, Nat.reduceSub, Nat.reduceMul, reduceCtorEq, Nat.reduceLeDiff, h1, allowedK]
  · simp only [c78, go_sem, ↓reduceIte, Nat.reduceEqDiff, Nat.reduceAdd, Nat.reduceSub, Nat.reduceMul, reduceCtorEq, Nat.reduceLeDiff, h1, false_and, allowedK]
theorem bounded_ev (w : Wg) (h : H) (Q : V → H → Prop) : Ev fnG fastA (.fn 114 [] []) [.agg (encW w)] h Q = Q (.bool (boundedW w)) (h.add (.cells .rw (encW w))) := by
  refine Ev.det (Ev_body (fd := c114) rfl rfl rfl ?_) Q
  by_cases h1 : 0 ≤ w.reads ∧ w.reads ≤ 10000 <;> by_cases h2 : 0 ≤ w.lo ∧ w.lo ≤ 60 <;> simp (maxSteps := 1000000) (implicitDefEqProofs := false) (disch := first | with_reducible rfl | omega | (simp only [nA, nS, nD] <;> omega) | fail) only [c114, go_sem, ↓reduceIte, Nat.reduceEqDiff, Nat.reduceAdd, Nat.reduceSub, Nat.reduceMul, reduceCtorEq, Nat.reduceLeDiff, in_ev, h1, h2, false_and, boundedW, encW]
theorem bounded_pure (h : H) (w : Wg) : PureA h (.fn 114 [] []) [.agg (encW w)] (.bool (boundedW w)) := fun h1 hs => by
  rw [bounded_ev]; exact ⟨rfl, (H.Sub.refl hs.wf).add _⟩
theorem check1_ev (l : Lt) (h : H) (Q : V → H → Prop) : Ev fnG fastA (.fn 116 [] []) [.agg (encL l)] h Q = Q (.bool (allowedK l.kind)) (h.add (.cells .rw (encL l))) := by
  refine Ev.det (Ev_body (fd := c116) rfl rfl rfl ?_) Q
  simp (maxSteps := 1000000) (implicitDefEqProofs := false) (disch := first | with_reducible rfl | omega | (simp only [nA, nS, nD] <;> omega) | fail) only [c116, go_sem, ↓reduceIte, Nat.reduceEqDiff, Nat.reduceAdd, Nat.reduceSub, Nat.reduceMul, reduceCtorEq, Nat.reduceLeDiff, allowed_ev, encL]
theorem check1_pure (h : H) (l : Lt) : PureA h (.fn 116 [] []) [.agg (encL l)] (.bool (allowedK l.kind)) := fun h1 hs => by
  rw [check1_ev]; exact ⟨rfl, (H.Sub.refl hs.wf).add _⟩
theorem check3_ev (w : Wg) (h : H) (Q : V → H → Prop) : Ev fnG fastA (.fn 118 [] []) [.agg (encW w)] h Q = Q (.bool (decide (w.lo ≤ w.hi))) (h.add (.cells .rw (encW w))) := by
  refine Ev.det (Ev_body (fd := c118) rfl rfl rfl ?_) Q
  simp (maxSteps := 1000000) (implicitDefEqProofs := false) (disch := first | with_reducible rfl | omega | (simp only [nA, nS, nD] <;> omega) | fail) only [c118, go_sem, ↓reduceIte, Nat.reduceEqDiff, Nat.reduceAdd, Nat.reduceSub, Nat.reduceMul, reduceCtorEq, Nat.reduceLeDiff, encW]
theorem check3_pure (h : H) (w : Wg) : PureA h (.fn 118 [] []) [.agg (encW w)] (.bool (decide (w.lo ≤ w.hi))) := fun h1 hs => by
  rw [check3_ev]; exact ⟨rfl, (H.Sub.refl hs.wf).add _⟩
theorem lot_ev {h : H} {v : V} {m : Ml} (hm : MlIs h v m) (n : Int) (Q : V → H → Prop) (q : ∀ h', h.Sub h' → Q (.bool (inB n 0 ((m.lots.length : Int) - 1))) h') (hw : h.wf) : Ev fnG fastA (.fn 91 [] []) [v, .int .i64 n] h Q := by
  obtain ⟨L, W, rfl, a1, a2⟩ := hm
  have hb := a1.boundE
  refine Ev_body (fd := c91) rfl rfl rfl ?_
  simp (maxSteps := 1000000) (implicitDefEqProofs := false) (disch := first | with_reducible rfl | omega | (simp only [nA, nS, nD] <;> omega) | fail) only [c91, go_sem, ↓reduceIte, Nat.reduceEqDiff, Nat.reduceAdd, Nat.reduceSub, Nat.reduceMul, reduceCtorEq, Nat.reduceLeDiff, a1.lenE, wr_in, in_ev]
  exact q _ ((H.Sub.refl hw).add _)
theorem weighing_ev {h : H} {v : V} {m : Ml} (hm : MlIs h v m) (n : Int) (Q : V → H → Prop) (q : ∀ h', h.Sub h' → Q (.bool (inB n 0 ((m.wgs.length : Int) - 1))) h') (hw : h.wf) : Ev fnG fastA (.fn 90 [] []) [v, .int .i64 n] h Q := by
  obtain ⟨L, W, rfl, a1, a2⟩ := hm
  have hb := a2.boundE
  refine Ev_body (fd := c90) rfl rfl rfl ?_
  simp (maxSteps := 1000000) (implicitDefEqProofs := false) (disch := first | with_reducible rfl | omega | (simp only [nA, nS, nD] <;> omega) | fail) only [c90, go_sem, ↓reduceIte, Nat.reduceEqDiff, Nat.reduceAdd, Nat.reduceSub, Nat.reduceMul, reduceCtorEq, Nat.reduceLeDiff, a2.lenE, wr_in, in_ev]
  exact q _ ((H.Sub.refl hw).add _)
theorem check2_pure {h : H} {v : V} {m : Ml} (hm : MlIs h v m) {b : Nat} (hb : h.cells b = some [.fn 91 [v] []]) (w : Wg) : PureA h (.fn 117 [] [.ptr b 0]) [.agg (encW w)] (.bool (inB w.lot 0 ((m.lots.length : Int) - 1))) := fun h1 hs => by
  have hlt : b < h1.next := by
    obtain ⟨k, hk⟩ := H.cells_eq (hs.cells hb)
    exact hs.wf b _ hk
  have hb1 := hs.cells hb
  refine Ev_body (fd := c117) rfl rfl rfl ?_
  simp (maxSteps := 1000000) (implicitDefEqProofs := false) (disch := first | with_reducible rfl | omega | (simp only [nA, nS, nD] <;> omega) | fail) only [c117, go_sem, ↓reduceIte, Nat.reduceEqDiff, Nat.reduceAdd, Nat.reduceSub, Nat.reduceMul, reduceCtorEq, Nat.reduceLeDiff, hb1, encW]
  rw [Ev_fn]
  have hs2 := hs.add (.cells .rw [V.int IntKind.i64 w.lot, V.int IntKind.i64 w.reads, V.int IntKind.i64 w.lo, V.int IntKind.i64 w.hi])
  refine lot_ev (hm.mono hs2) w.lot _ (fun h' hs' => ?_) hs2.wf
  simp (maxSteps := 1000000) (implicitDefEqProofs := false) (disch := first | with_reducible rfl | omega | (simp only [nA, nS, nD] <;> omega) | fail) only [go_sem, ↓reduceIte, Nat.reduceEqDiff, Nat.reduceAdd, Nat.reduceSub, Nat.reduceMul, reduceCtorEq, Nat.reduceLeDiff]
  exact (H.Sub.refl hs.wf).add _ |>.trans hs'
theorem fromsOk_hit {l : List Lt} {i : Nat} (hi : i < l.length) (h : -1 ≤ l[i].frm ∧ l[i].frm ≤ (i : Int) - 1) : fromsOk (l.drop i) i = fromsOk (l.drop (i + 1)) (i + 1) := by
  rw [List.drop_eq_getElem_cons hi]; simp [fromsOk, h]
theorem fromsOk_miss {l : List Lt} {i : Nat} (hi : i < l.length) (h : ¬ (-1 ≤ l[i].frm ∧ l[i].frm ≤ (i : Int) - 1)) : fromsOk (l.drop i) i = false := by
  rw [List.drop_eq_getElem_cons hi]; simp [fromsOk, h]
theorem check_ev {h : H} {v : V} {m : Ml} (hw : h.wf) (hm : MlIs h v m) : Ev fnG fastA (.fn 54 [] []) [v] h fun u h' => u = .int .i64 (check m) ∧ h.Sub h' := by
  have hm0 := hm
  obtain ⟨L, W, rfl, aL, aW⟩ := hm
  have hbL := aL.boundE
  have hbW := aW.boundE
  refine Ev_body (fd := c54) rfl rfl rfl ?_
  have hs1 : h.Sub (h.add (.cells .rw [.int .i64 m.errs, L, W])) := (H.Sub.refl hw).add _
  by_cases c1 : 1 ≤ (m.lots.length : Int) ∧ (m.lots.length : Int) ≤ 12
  case neg =>
    simp (maxSteps := 1000000) (implicitDefEqProofs := false) (disch := first | with_reducible rfl | omega | (simp only [nA, nS, nD] <;> omega) | fail) only [c54, go_sem, ↓reduceIte, Nat.reduceEqDiff, Nat.reduceAdd, Nat.reduceSub, Nat.reduceMul, reduceCtorEq, Nat.reduceLeDiff, in_ev, aL.lenE, c1]
    exact ⟨by simp [check, c1], hs1⟩
  by_cases c2 : 10 < (m.wgs.length : Int)
  case pos =>
    simp (maxSteps := 1000000) (implicitDefEqProofs := false) (disch := first | with_reducible rfl | omega | (simp only [nA, nS, nD] <;> omega) | fail) only [c54, go_sem, ↓reduceIte, Nat.reduceEqDiff, Nat.reduceAdd, Nat.reduceSub, Nat.reduceMul, reduceCtorEq, Nat.reduceLeDiff, in_ev, aL.lenE, aW.lenE, c1, c2]
    exact ⟨by simp only [check, c1, c2, not_true_eq_false, and_self, ↓reduceIte], hs1⟩
  by_cases c3 : 0 ≤ m.errs ∧ m.errs ≤ 50
  case neg =>
    simp (maxSteps := 1000000) (implicitDefEqProofs := false) (disch := first | with_reducible rfl | omega | (simp only [nA, nS, nD] <;> omega) | fail) only [c54, go_sem, ↓reduceIte, Nat.reduceEqDiff, Nat.reduceAdd, Nat.reduceSub, Nat.reduceMul, reduceCtorEq, Nat.reduceLeDiff, in_ev, aL.lenE, aW.lenE, c1, c2, c3]
    exact ⟨by simp only [check, c1, c2, c3, not_true_eq_false, not_false_eq_true, and_self, ↓reduceIte], hs1⟩
  simp (maxSteps := 1000000) (implicitDefEqProofs := false) (disch := first | with_reducible rfl | omega | (simp only [nA, nS, nD] <;> omega) | fail) only [c54, go_sem, ↓reduceIte, Nat.reduceEqDiff, Nat.reduceAdd, Nat.reduceSub, Nat.reduceMul, reduceCtorEq, Nat.reduceLeDiff, in_ev, aL.lenE, aW.lenE, c1, c2, c3]
  refine (everyWg_ev hs1.wf (aW.mono hs1) fun w _ => bounded_pure _ w).mono fun u h2 hu => ?_
  obtain ⟨rfl, hs2⟩ := hu
  have g2 : h2.cells h.next = some [.int .i64 m.errs, L, W] := hs2.cells (cells_add_new rfl)
  have l2 : h.next < h2.next := by have := hs2.next; rw [H.next_add] at this; omega
  cases c4 : m.wgs.all boundedW
  case false =>
    simp (maxSteps := 1000000) (implicitDefEqProofs := false) (disch := first | with_reducible rfl | omega | (simp only [nA, nS, nD] <;> omega) | fail) only [go_sem, ↓reduceIte, Nat.reduceEqDiff, Nat.reduceAdd, Nat.reduceSub, Nat.reduceMul, reduceCtorEq, Nat.reduceLeDiff, c4]
    exact ⟨by simp only [check, c1, c2, c3, c4, not_true_eq_false, not_false_eq_true, and_self, ↓reduceIte], hs1.trans hs2⟩
  simp (maxSteps := 1000000) (implicitDefEqProofs := false) (disch := first | with_reducible rfl | omega | (simp only [nA, nS, nD] <;> omega) | fail) only [go_sem, ↓reduceIte, Nat.reduceEqDiff, Nat.reduceAdd, Nat.reduceSub, Nat.reduceMul, reduceCtorEq, Nat.reduceLeDiff, c4, g2]
  have hs12 := hs1.trans hs2
  refine (everyLot_ev hs2.wf (aL.mono hs12) fun l _ => check1_pure _ l).mono fun u h3 hu => ?_
  obtain ⟨rfl, hs3⟩ := hu
  have g3 := hs3.cells g2
  have l3 : h.next < h3.next := Nat.lt_of_lt_of_le l2 hs3.next
  have hs13 := hs12.trans hs3
  cases c5 : m.lots.all fun l => allowedK l.kind
  case false =>
    simp (maxSteps := 1000000) (implicitDefEqProofs := false) (disch := first | with_reducible rfl | omega | (simp only [nA, nS, nD] <;> omega) | fail) only [go_sem, ↓reduceIte, Nat.reduceEqDiff, Nat.reduceAdd, Nat.reduceSub, Nat.reduceMul, reduceCtorEq, Nat.reduceLeDiff, c5]
    exact ⟨by simp only [check, c1, c2, c3, c4, c5, not_true_eq_false, not_false_eq_true, and_self, ↓reduceIte, Bool.true_eq_false], hs13⟩
  simp (maxSteps := 1000000) (implicitDefEqProofs := false) (disch := first | with_reducible rfl | omega | (simp only [nA, nS, nD] <;> omega) | fail) only [go_sem, ↓reduceIte, Nat.reduceEqDiff, Nat.reduceAdd, Nat.reduceSub, Nat.reduceMul, reduceCtorEq, Nat.reduceLeDiff, c5, g3, aL.lenE]
  have c12 : ¬ (10 < (m.wgs.length : Int)) := c2
  refine W_count m.lots.length (fun i s => ∃ tm h', s = ⟨tm, h', []⟩ ∧ h3.Sub h' ∧ (Opd.t 1).ev tm = .ptr h.next 0 ∧ (Opd.t 34).ev tm = L ∧ (Opd.t 35).ev tm = .int .i64 (m.lots.length : Int) ∧ (Opd.t 36).ev tm = .int .i64 (i : Int) ∧ fromsOk m.lots 0 = fromsOk (m.lots.drop i) i)
    ?_ ?_ (i := 0) (Nat.zero_le _) ⟨_, _, rfl, H.Sub.refl hs3.wf, (by simp [ev_c, ev_put] <;> rfl), (by simp [ev_c, ev_put] <;> rfl), (by simp [ev_c, ev_put] <;> rfl), (by simp only [ev_put]; rfl), rfl⟩
  · rintro i s hi ⟨tm, h', rfl, hs, e1, e34, e35, e36, e9⟩
    have hi' : (i : Int) < (m.lots.length : Int) := by omega
    obtain ⟨b, o, c, cs, rfl, hc, hq, hg, hn, hn0⟩ := (aL.mono (hs13.trans hs)).at hi
    have hs4 := hs.add (.cells .rw [.int .i64 m.lots[i].frm, .int .i64 m.lots[i].kind])
    by_cases c6 : -1 ≤ m.lots[i].frm ∧ m.lots[i].frm ≤ (i : Int) - 1
    · simp (maxSteps := 1000000) (implicitDefEqProofs := false) (disch := first | with_reducible rfl | omega | (simp only [nA, nS, nD] <;> omega) | fail) only [go_sem, ↓reduceIte, Nat.reduceEqDiff, Nat.reduceAdd, Nat.reduceSub, Nat.reduceMul, reduceCtorEq, Nat.reduceLeDiff, e1, e34, e35, e36, hi', hq (nat_cst i), hc, hg, encL, wr_in, in_ev, c6, wr_succ]
      exact ⟨_, _, rfl, hs4, (by simp [ev_c, ev_put, e1] <;> rfl), (by simp [ev_c, ev_put, e34] <;> rfl), (by simp [ev_c, ev_put, e35] <;> rfl), (by simp [ev_c, ev_put] <;> rfl), by rw [e9, fromsOk_hit hi c6]⟩
    · simp (maxSteps := 1000000) (implicitDefEqProofs := false) (disch := first | with_reducible rfl | omega | (simp only [nA, nS, nD] <;> omega) | fail) only [go_sem, ↓reduceIte, Nat.reduceEqDiff, Nat.reduceAdd, Nat.reduceSub, Nat.reduceMul, reduceCtorEq, Nat.reduceLeDiff, e1, e34, e35, e36, hi', hq (nat_cst i), hc, hg, encL, wr_in, in_ev, c6, wr_succ]
      have : fromsOk m.lots 0 = false := by rw [e9, fromsOk_miss hi c6]
      exact ⟨by simp only [check, c1, c12, c3, c4, c5, this, not_true_eq_false, not_false_eq_true, and_self, ↓reduceIte, Bool.true_eq_false], hs13.trans hs4⟩
  · rintro s ⟨tm, h', rfl, hs, e1, e34, e35, e36, e9⟩
    have c6 : fromsOk m.lots 0 = true := by rw [e9]; simp [fromsOk]
    have g4 := hs.cells g3
    have l4 : h.next < h'.next := Nat.lt_of_lt_of_le l3 hs.next
    have hs14 := hs13.trans hs
    simp (maxSteps := 1000000) (implicitDefEqProofs := false) (disch := first | with_reducible rfl | omega | (simp only [nA, nS, nD] <;> omega) | fail) only [go_sem, ↓reduceIte, Nat.reduceEqDiff, Nat.reduceAdd, Nat.reduceSub, Nat.reduceMul, reduceCtorEq, Nat.reduceLeDiff, e1, e34, e35, e36, Int.lt_irrefl, g4]
    have hm5 := (hm0.mono hs14).mono ((H.Sub.refl hs14.wf).add (.cells .rw [.fn 91 [.agg [.int .i64 m.errs, L, W]] []]))
    refine (everyWg_ev (H.Sub.wf (hs14.add _)) (aW.mono (hs14.add _)) fun w _ => check2_pure hm5 (cells_add_new rfl) w).mono fun u h6 hu => ?_
    obtain ⟨rfl, hs6⟩ := hu
    have g6 : h6.cells h.next = some [.int .i64 m.errs, L, W] := hs6.cells (by rw [cells_add_old l4]; exact g4)
    have hs16 := (hs14.add _).trans hs6
    have l6 : h.next < h6.next := by have := hs6.next; rw [H.next_add] at this; omega
    cases c7 : m.wgs.all (fun w => inB w.lot 0 ((m.lots.length : Int) - 1))
    case false =>
      simp (maxSteps := 1000000) (implicitDefEqProofs := false) (disch := first | with_reducible rfl | omega | (simp only [nA, nS, nD] <;> omega) | fail) only [go_sem, ↓reduceIte, Nat.reduceEqDiff, Nat.reduceAdd, Nat.reduceSub, Nat.reduceMul, reduceCtorEq, Nat.reduceLeDiff, c7]
      exact ⟨by simp only [check, c1, c12, c3, c4, c5, c6, c7, not_true_eq_false, not_false_eq_true, and_self, ↓reduceIte, Bool.true_eq_false], hs16⟩
    simp (maxSteps := 1000000) (implicitDefEqProofs := false) (disch := first | with_reducible rfl | omega | (simp only [nA, nS, nD] <;> omega) | fail) only [go_sem, ↓reduceIte, Nat.reduceEqDiff, Nat.reduceAdd, Nat.reduceSub, Nat.reduceMul, reduceCtorEq, Nat.reduceLeDiff, c7, e1, g6]
    refine (everyWg_ev hs16.wf (aW.mono hs16) fun w _ => check3_pure _ w).mono fun u h7 hu => ?_
    obtain ⟨rfl, hs7⟩ := hu
    have hs17 := hs16.trans hs7
    cases c8 : m.wgs.all (fun w => decide (w.lo ≤ w.hi))
    · simp (maxSteps := 1000000) (implicitDefEqProofs := false) (disch := first | with_reducible rfl | omega | (simp only [nA, nS, nD] <;> omega) | fail) only [go_sem, ↓reduceIte, Nat.reduceEqDiff, Nat.reduceAdd, Nat.reduceSub, Nat.reduceMul, reduceCtorEq, Nat.reduceLeDiff, c8]
      exact ⟨by simp only [check, c1, c12, c3, c4, c5, c6, c7, c8, not_true_eq_false, not_false_eq_true, and_self, ↓reduceIte, Bool.true_eq_false], hs17⟩
    · simp (maxSteps := 1000000) (implicitDefEqProofs := false) (disch := first | with_reducible rfl | omega | (simp only [nA, nS, nD] <;> omega) | fail) only [go_sem, ↓reduceIte, Nat.reduceEqDiff, Nat.reduceAdd, Nat.reduceSub, Nat.reduceMul, reduceCtorEq, Nat.reduceLeDiff, c8]
      exact ⟨by simp only [check, c1, c12, c3, c4, c5, c6, c7, c8, not_true_eq_false, not_false_eq_true, and_self, ↓reduceIte, Bool.true_eq_false], hs17⟩
end Go.Ab.Try
set_option linter.unusedSimpArgs false
set_option linter.unusedVariables false
namespace Go.Ab.Try
def partsL (k : Int) : List Lt → Nat → List Int
  | [], _ => []
  | l :: r, i => if l.frm = k then (i : Int) :: partsL k r (i + 1) else partsL k r (i + 1)
def parts (m : Ml) (k : Int) : List Int := partsL k m.lots 0
theorem partsL_app (k : Int) : ∀ (a b : List Lt) (i : Nat), partsL k (a ++ b) i = partsL k a i ++ partsL k b (i + a.length)
  | [], b, i => by simp [partsL]
  | l :: a, b, i => by
    have ih := partsL_app k a b (i + 1)
    simp only [List.cons_append, partsL, ih, List.length_cons]
    have e : i + 1 + a.length = i + (a.length + 1) := by omega
    rw [e]
    by_cases h : l.frm = k <;> simp [h]
theorem partsL_len (k : Int) : ∀ (a : List Lt) (i : Nat), (partsL k a i).length ≤ a.length
  | [], i => by simp [partsL]
  | l :: a, i => by
    have ih := partsL_len k a (i + 1)
    simp only [partsL]
    by_cases h : l.frm = k <;> simp [h] <;> omega
def PtIs (h0 h : H) (l : List (Int × V)) (P : Int → List Int) : Prop :=
  (∀ k, (lkA k l = none ∧ P k = []) ∨ ∃ s, lkA k l = some s ∧ OwnSl h0 h s 1 ((P k).map encI)) ∧
  (∀ k j s t b, k ≠ j → lkA k l = some s → lkA j l = some t → blkOf s b → ¬ blkOf t b)
theorem opened_ev {h : H} {v : V} {m : Ml} (hw : h.wf) (hm : MlIs h v m) : Ev fnG fastA (.fn 87 [] []) [v] h fun u h' => h.Sub h' ∧ ((check m ≠ 0 ∧ u = .tup [.nilp, .int .i64 (check m)]) ∨
    (check m = 0 ∧ ∃ d pm l L W, u = .tup [.ptr d 0, .int .i64 0] ∧ h.next ≤ d ∧ h.next ≤ pm ∧ v = .agg [.int .i64 m.errs, L, W] ∧ h'.get d = some (.cells .rw [.int .i64 m.errs, L, W, .map pm]) ∧ h'.get pm = some (.map (encA l)) ∧ PtIs h h' l (parts m))) := by
  have hm0 := hm
  obtain ⟨L, W, rfl, aL, aW⟩ := hm
  have hbL := aL.boundE
  refine Ev_body (fd := c87) rfl rfl rfl ?_
  have hs1 : h.Sub (h.add (.cells .rw [.int .i64 m.errs, L, W])) := (H.Sub.refl hw).add _
  simp (maxSteps := 1000000) (implicitDefEqProofs := false) (disch := first | with_reducible rfl | omega | (simp only [nA, nS, nD] <;> omega) | fail) only [c87, go_sem, ↓reduceIte, Nat.reduceEqDiff, Nat.reduceAdd, Nat.reduceSub, Nat.reduceMul, reduceCtorEq, Nat.reduceLeDiff]
  refine (check_ev hs1.wf (hm0.mono hs1)).mono fun u h2 hu => ?_
  obtain ⟨rfl, hs2⟩ := hu
  have g2 : h2.cells h.next = some [.int .i64 m.errs, L, W] := hs2.cells (cells_add_new rfl)
  have l2 : h.next < h2.next := by have := hs2.next; rw [H.next_add] at this; omega
  have hs12 := hs1.trans hs2
  by_cases c : check m = 0
  case neg =>
    simp (maxSteps := 1000000) (implicitDefEqProofs := false) (disch := first | with_reducible rfl | omega | (simp only [nA, nS, nD] <;> omega) | fail) only [go_sem, ↓reduceIte, Nat.reduceEqDiff, Nat.reduceAdd, Nat.reduceSub, Nat.reduceMul, reduceCtorEq, Nat.reduceLeDiff, ne_eq, c, not_false_eq_true]
    exact ⟨hs12, .inl trivial⟩
  simp (maxSteps := 1000000) (implicitDefEqProofs := false) (disch := first | with_reducible rfl | omega | (simp only [nA, nS, nD] <;> omega) | fail) only [go_sem, ↓reduceIte, Nat.reduceEqDiff, Nat.reduceAdd, Nat.reduceSub, Nat.reduceMul, reduceCtorEq, Nat.reduceLeDiff, ne_eq, c, not_true_eq_false, g2, aL.lenE]
  have c0 := c
  have hs3 := (hs12.add (.map [])).add (.cells .rw [V.int IntKind.i64 m.errs, L, W, V.map h2.next])
  refine W_count m.lots.length (fun i s => ∃ tm h' l, s = ⟨tm, h', []⟩ ∧ h.Sub h' ∧ h2.next + 1 < h'.next ∧ (Opd.t 5).ev tm = .ptr (h2.next + 1) 0 ∧ (Opd.t 18).ev tm = L ∧ (Opd.t 19).ev tm = .int .i64 (m.lots.length : Int) ∧ (Opd.t 20).ev tm = .int .i64 (i : Int) ∧
      h'.get (h2.next + 1) = some (.cells .rw [.int .i64 m.errs, L, W, .map h2.next]) ∧ h'.get h2.next = some (.map (encA l)) ∧ PtIs h h' l (fun k => partsL k (m.lots.take i) 0))
    ?_ ?_ (i := 0) (Nat.zero_le _) ⟨_, _, [], rfl, hs3, by simp only [H.next_add]; omega, (by simp [ev_c, ev_put] <;> rfl), (by simp [ev_c, ev_put] <;> rfl), (by simp [ev_c, ev_put] <;> rfl), (by simp [ev_c, ev_put] <;> rfl), by rw [get_add_new (by rw [H.next_add])], by rw [get_add_old (by rw [H.next_add]; omega), get_add_new rfl]; rfl, ?_⟩
  · rintro i s hi ⟨tm, h', l, rfl, hs, lt, e5, e18, e19, e20, gd, gp, pt⟩
    have hi' : (i : Int) < (m.lots.length : Int) := by omega
    have l12 := hs12.next
    obtain ⟨b, o, c, cs, rfl, hc, hq, hg, hn, hn0⟩ := (aL.mono hs).at hi
    obtain ⟨x, hx, ox⟩ : ∃ x, found .nils false (lkA m.lots[i].frm l) = x ∧ OwnSl h h' x 1 ((partsL m.lots[i].frm (m.lots.take i) 0).map encI) := by
      rcases pt.1 m.lots[i].frm with ⟨e1, e2⟩ | ⟨s, e1, e2⟩
      · exact ⟨_, rfl, by rw [e1]; simp only at e2; rw [e2]; exact OwnSl.nil hs 1⟩
      · exact ⟨_, rfl, by rw [e1]; exact e2⟩
    simp (maxSteps := 1000000) (implicitDefEqProofs := false) (disch := first | with_reducible rfl | omega | (simp only [nA, nS, nD] <;> omega) | fail) only [go_sem, ↓reduceIte, Nat.reduceEqDiff, Nat.reduceAdd, Nat.reduceSub, Nat.reduceMul, reduceCtorEq, Nat.reduceLeDiff, e5, e18, e19, e20, hi', hq (nat_cst i), hc, hg, encL, gd, gp, cells_of gd, hx]
    have hA := hs.add (.cells .rw [.int .i64 m.lots[i].frm, .int .i64 m.lots[i].kind])
    have hB := hA.add (.cells .rw [.int .i64 (i : Int)])
    have sB : h'.Sub ((h'.add (.cells .rw [.int .i64 m.lots[i].frm, .int .i64 m.lots[i].kind])).add (.cells .rw [.int .i64 (i : Int)])) := ((H.Sub.refl hs.wf).add _).add _
    have hle := partsL_len m.lots[i].frm (m.lots.take i) 0
    rw [List.length_take] at hle
    have hck : m.lots.length ≤ 12 := by
      unfold check at c0
      by_cases hc1 : 1 ≤ (m.lots.length : Int) ∧ (m.lots.length : Int) ≤ 12
      · omega
      · simp [hc1] at c0
    refine OwnSl.app (ox.mono sB) hw (new := [encI i]) (by simp) (by simp [encI]) (by simp (maxSteps := 1000000) (implicitDefEqProofs := false) (disch := first | with_reducible rfl | omega | (simp only [nA, nS, nD] <;> omega) | fail) only [go_sem, ↓reduceIte, Nat.reduceEqDiff, Nat.reduceAdd, Nat.reduceSub, Nat.reduceMul, reduceCtorEq, Nat.reduceLeDiff, encI, List.flatten_cons, List.flatten_nil]) (by simp [lenV]) (by simp [encI, allOne, V.one]) (by simp only [List.length_map, List.length_singleton]; omega) (by simp only [List.length_map, List.length_singleton]; omega) fun h5 own5 k5 n5 => ?_
    have npm : ∀ b, blkOf x b → b ≠ h2.next := fun b hb e => by
      have := (ox.blk hb).2.2
      rw [e, gp] at this; cases this
    have nd : ∀ b, blkOf x b → b ≠ h2.next + 1 := fun b hb e => by
      have := (ox.blk hb).2.2
      rw [e, gd] at this; cases this
    have nx : ∀ b, blkOf x b → b < h'.next := fun b hb => (ox.blk hb).2.1
    have gd5 : h5.get (h2.next + 1) = some (.cells .rw [.int .i64 m.errs, .sl b o m.lots.length c, W, .map h2.next]) := k5.2 _ _ (sB.get gd) fun hb => nd _ hb rfl
    have gp5 : h5.get h2.next = some (.map (encA l)) := k5.2 _ _ (sB.get gp) fun hb => npm _ hb rfl
    have ga5 : h5.cells h'.next = some [.int .i64 m.lots[i].frm, .int .i64 m.lots[i].kind] := k5.cells (by simp (maxSteps := 1000000) (implicitDefEqProofs := false) (disch := first | with_reducible rfl | omega | (simp only [nA, nS, nD] <;> omega) | fail) only [go_sem, ↓reduceIte, Nat.reduceEqDiff, Nat.reduceAdd, Nat.reduceSub, Nat.reduceMul, reduceCtorEq, Nat.reduceLeDiff]) fun hb => by have := nx _ hb; omega
    have hl5 : h5.next = h'.next + 3 := by rw [n5]; simp only [H.next_add]
    have l2n : h2.next < h'.next := by omega
    have hbw : h'.cells b = some cs := hc
    simp (maxSteps := 1000000) (implicitDefEqProofs := false) (disch := first | with_reducible rfl | omega | (simp only [nA, nS, nD] <;> omega) | fail) only [go_sem, ↓reduceIte, Nat.reduceEqDiff, Nat.reduceAdd, Nat.reduceSub, Nat.reduceMul, reduceCtorEq, Nat.reduceLeDiff, e5, e18, e19, e20, gd5, gp5, ga5, cells_of gd5, gd, gp, cells_of gd, hx, wr_succ]
    have q6 : partsL m.lots[i].frm (m.lots.take (i + 1)) 0 = partsL m.lots[i].frm (m.lots.take i) 0 ++ [(i : Int)] := by
      rw [List.take_succ_eq_append_getElem hi, partsL_app]
      simp [partsL]; omega
    have q7 : ∀ k, k ≠ m.lots[i].frm → partsL k (m.lots.take (i + 1)) 0 = partsL k (m.lots.take i) 0 := fun k hk => by
      rw [List.take_succ_eq_append_getElem hi, partsL_app]
      have : ¬ m.lots[i].frm = k := fun e => hk e.symm
      simp [partsL, this]
    have hb6 : ∀ b, blkOf (.sl (h'.next + 1 + 1) 0 ((List.map encI (partsL m.lots[i].frm (List.take i m.lots) 0)).length + 1) (.slk 0 0)) b → b = h'.next + 2 := by
      rintro b ⟨o, n, c, e⟩; cases e; rfl
    have k6 := Keeps.set h5 h2.next (.map (encA (putA m.lots[i].frm (.sl (h'.next + 1 + 1) 0 ((List.map encI (partsL m.lots[i].frm (List.take i m.lots) 0)).length + 1) (.slk 0 0)) l)))
    have hs6 := own5.1.set hs12.next (by omega : h2.next < h5.next) hw (.map (encA (putA m.lots[i].frm (.sl (h'.next + 1 + 1) 0 ((List.map encI (partsL m.lots[i].frm (List.take i m.lots) 0)).length + 1) (.slk 0 0)) l)))
    refine ⟨_, _, putA m.lots[i].frm (.sl (h'.next + 1 + 1) 0 ((List.map encI (partsL m.lots[i].frm (List.take i m.lots) 0)).length + 1) (.slk 0 0)) l, rfl, hs6, by rw [H.next_set]; omega, (by simp [ev_c, ev_put, e5] <;> rfl), (by simp [ev_c, ev_put, e18] <;> rfl), (by simp [ev_c, ev_put, e19] <;> rfl), (by simp [ev_c, ev_put] <;> rfl), by rw [get_set_other (by omega)]; exact gd5, get_set_same rfl, fun k => ?_, fun k j s t b hkj hk hj hbs hbt => ?_⟩
    · rw [lkA_putA]
      by_cases hk : k = m.lots[i].frm
      · subst hk
        refine .inr ⟨_, if_pos rfl, ?_⟩
        dsimp only
        rw [q6, List.map_append]
        have o5 := own5
        simp only [H.next_add, List.length_singleton] at o5
        exact o5.keep k6 hs6 fun b hb e => by have := hb6 b hb; omega
      · rw [if_neg hk]
        rcases pt.1 k with ⟨e1, e2⟩ | ⟨s, e1, e2⟩
        · exact .inl ⟨e1, by dsimp only; rw [q7 k hk]; exact e2⟩
        · refine .inr ⟨s, e1, ?_⟩
          dsimp only
          rw [q7 k hk]
          have os := e2.mono sB
          have nsx : ∀ b, blkOf s b → ¬ blkOf x b := fun b hb hbx => by
            rcases pt.1 m.lots[i].frm with ⟨f1, f2⟩ | ⟨s', f1, f2⟩
            · rw [f1] at hx; obtain ⟨_, _, _, e⟩ := hbx; rw [← hx] at e; cases e
            · rw [f1] at hx; exact pt.2 k _ s s' b hk e1 f1 hb (by rw [← hx] at hbx; exact hbx)
          refine (os.keep k5 own5.1 nsx).keep k6 hs6 fun b hb e => ?_
          have := (e2.blk hb).2.2
          rw [e, gp] at this; cases this
    · rw [lkA_putA] at hk hj
      by_cases hk1 : k = m.lots[i].frm
      · have hj1 : ¬ j = m.lots[i].frm := fun e => hkj (hk1.trans e.symm)
        rw [if_pos hk1] at hk
        rw [if_neg hj1] at hj
        cases hk
        have := hb6 b hbs
        rcases pt.1 j with ⟨e1, _⟩ | ⟨s', e1, e2⟩
        · rw [e1] at hj; cases hj
        · rw [e1] at hj; cases hj
          have := (e2.blk hbt).2.1; omega
      · rw [if_neg hk1] at hk
        by_cases hj1 : j = m.lots[i].frm
        · rw [if_pos hj1] at hj
          cases hj
          have := hb6 b hbt
          rcases pt.1 k with ⟨e1, _⟩ | ⟨s', e1, e2⟩
          · rw [e1] at hk; cases hk
          · rw [e1] at hk; cases hk
            have := (e2.blk hbs).2.1; omega
        · rw [if_neg hj1] at hj
          exact pt.2 k j s t b hkj hk hj hbs hbt
  · rintro s ⟨tm, h', l, rfl, hs, lt, e5, e18, e19, e20, gd, gp, pt⟩
    simp (maxSteps := 1000000) (implicitDefEqProofs := false) (disch := first | with_reducible rfl | omega | (simp only [nA, nS, nD] <;> omega) | fail) only [go_sem, ↓reduceIte, Nat.reduceEqDiff, Nat.reduceAdd, Nat.reduceSub, Nat.reduceMul, reduceCtorEq, Nat.reduceLeDiff, e5, e18, e19, e20, Int.lt_irrefl]
    rw [List.take_length] at pt
    exact ⟨hs, .inr ⟨_, _, l, L, W, rfl, by omega, by omega, rfl, gd, gp, pt⟩⟩
  · exact ⟨fun k => .inl ⟨rfl, by simp [partsL]⟩, fun k j s t b _ hk => by cases hk⟩
end Go.Ab.Try
set_option linter.unusedSimpArgs false
set_option linter.unusedVariables false
namespace Go.Ab.Try
structure Good (m : Ml) : Prop where
  lots : 1 ≤ m.lots.length ∧ m.lots.length ≤ 12
  wgs : m.wgs.length ≤ 10
  errs : 0 ≤ m.errs ∧ m.errs ≤ 50
  wg : ∀ w ∈ m.wgs, (0 ≤ w.reads ∧ w.reads ≤ 10000) ∧ (0 ≤ w.lo ∧ w.lo ≤ 60) ∧ (0 ≤ w.hi ∧ w.hi ≤ 60)
  kind : ∀ l ∈ m.lots, 0 ≤ l.kind ∧ l.kind ≤ 3
  frm : ∀ i (hi : i < m.lots.length), -1 ≤ m.lots[i].frm ∧ m.lots[i].frm ≤ (i : Int) - 1
  lot : ∀ w ∈ m.wgs, 0 ≤ w.lot ∧ w.lot ≤ (m.lots.length : Int) - 1
  ord : ∀ w ∈ m.wgs, w.lo ≤ w.hi
theorem fromsOk_iff : ∀ (l : List Lt) (k : Nat), fromsOk l k = true ↔ ∀ i (hi : i < l.length), -1 ≤ l[i].frm ∧ l[i].frm ≤ ((k + i : Nat) : Int) - 1
  | [], k => by simp [fromsOk]
  | l :: r, k => by
    simp only [fromsOk, Bool.and_eq_true, decide_eq_true_eq, fromsOk_iff r (k + 1)]
    constructor
    · rintro ⟨h1, h2⟩ i hi
      cases i with
      | zero => simpa using h1
      | succ i =>
        have := h2 i (by simpa using hi)
        simp only [List.getElem_cons_succ]
        have e : k + 1 + i = k + (i + 1) := by omega
        rw [e] at this; exact this
    · intro h
      refine ⟨by have := h 0 (by simp); simp only [List.getElem_cons_zero] at this; simpa using this, fun i hi => ?_⟩
      have := h (i + 1) (by simpa using hi)
      simp only [List.getElem_cons_succ] at this
      have e : k + 1 + i = k + (i + 1) := by omega
      rw [e]; exact this
theorem good_of {m : Ml} (h : check m = 0) : Good m := by
  unfold check at h
  repeat' split at h
  all_goals first | (exfalso; revert h; decide) | skip
  rename_i c1 c2 c3 c4 c5 c6 c7 c8
  simp only [Bool.not_eq_false] at c4 c5 c6 c7 c8
  rw [List.all_eq_true] at c4 c5 c7 c8
  rw [fromsOk_iff] at c6
  refine ⟨by omega, by omega, by omega, fun w hw => by simpa [boundedW] using c4 w hw, fun l hl => by simpa [allowedK] using c5 l hl, fun i hi => by simpa using c6 i hi, fun w hw => by simpa [inB] using c7 w hw, fun w hw => by simpa using c8 w hw⟩

def DkAt (h : H) (d : Nat) (m : Ml) : Prop := ∃ pm l L W, h.get d = some (.cells .rw [.int .i64 m.errs, L, W, .map pm]) ∧ h.get pm = some (.map (encA l)) ∧ SlAt h L 2 (m.lots.map encL) ∧ SlAt h W 4 (m.wgs.map encW) ∧
  ∀ k, SlAt h (found .nils false (lkA k l)) 1 ((parts m k).map encI)
theorem DkAt.mono {h h' : H} {d : Nat} {m : Ml} (a : DkAt h d m) (hs : h.Sub h') : DkAt h' d m := by
  obtain ⟨pm, l, L, W, a1, a2, a3, a4, a5⟩ := a
  exact ⟨pm, l, L, W, hs.get a1, hs.get a2, a3.mono hs, a4.mono hs, fun k => (a5 k).mono hs⟩
theorem parts_len (m : Ml) (k : Int) : (parts m k).length ≤ m.lots.length := partsL_len k m.lots 0
theorem opened_dk {h : H} {v : V} {m : Ml} (hw : h.wf) (hm : MlIs h v m) : Ev fnG fastA (.fn 87 [] []) [v] h fun u h' => h.Sub h' ∧ ((check m ≠ 0 ∧ u = .tup [.nilp, .int .i64 (check m)]) ∨
    (check m = 0 ∧ ∃ d, u = .tup [.ptr d 0, .int .i64 0] ∧ DkAt h' d m)) := by
  refine (opened_ev hw hm).mono fun u h' hu => ?_
  obtain ⟨hs, hu | ⟨c, d, pm, l, L, W, e1, _, _, e2, g1, g2, pt⟩⟩ := hu
  · exact ⟨hs, .inl hu⟩
  · refine ⟨hs, .inr ⟨c, d, e1, pm, l, L, W, g1, g2, ?_, ?_, fun k => ?_⟩⟩
    · obtain ⟨L', W', e, aL, aW⟩ := hm
      rw [e2] at e; cases e; exact aL.mono hs
    · obtain ⟨L', W', e, aL, aW⟩ := hm
      rw [e2] at e; cases e; exact aW.mono hs
    · have hl := parts_len m k
      have hg := (good_of c).lots
      rcases pt.1 k with ⟨f1, f2⟩ | ⟨s, f1, f2⟩
      · rw [f1, f2]; exact (OwnSl.nil hs 1).sl (by simp)
      · rw [f1]; exact f2.sl (by simp only [List.length_map]; omega)

theorem least_ev {h : H} {x : V} {l : List Int} (hx : SlAt h x 1 (l.map encI)) (n : Int) (Q : V → H → Prop) : Ev fnG fastA (.fn 131 [] []) [.int .i64 n, x] h Q = Q (.int .i64 (l.foldl min n)) h := by
  have hb := hx.boundE
  refine Ev.det (Ev_body (fd := c131) rfl rfl rfl ?_) Q
  simp (maxSteps := 1000000) (implicitDefEqProofs := false) (disch := first | with_reducible rfl | omega | (simp only [nA, nS, nD] <;> omega) | fail) only [c131, go_sem, ↓reduceIte, Nat.reduceEqDiff, Nat.reduceAdd, Nat.reduceSub, Nat.reduceMul, reduceCtorEq, Nat.reduceLeDiff, hx.lenE]
  refine W_count l.length (fun i s => ∃ tm, s = ⟨tm, h, []⟩ ∧ (Opd.t 7).ev tm = x ∧ (Opd.t 8).ev tm = .int .i64 (l.length : Int) ∧ (Opd.t 9).ev tm = .int .i64 (i : Int) ∧ (Opd.t 0).ev tm = .int .i64 ((l.take i).foldl min n))
    ?_ ?_ (i := 0) (Nat.zero_le _) ⟨_, rfl, (by simp [ev_c, ev_put] <;> rfl), (by simp [ev_c, ev_put] <;> rfl), (by simp [ev_c, ev_put] <;> rfl), (by simp [ev_c, ev_put] <;> rfl)⟩
  · rintro i s hi ⟨tm, rfl, e7, e8, e9, e0⟩
    have hi' : (i : Int) < (l.length : Int) := by omega
    obtain ⟨b, o, c, cs, rfl, hc, hq, hg, hn, hn0⟩ := hx.at hi
    simp (maxSteps := 1000000) (implicitDefEqProofs := false) (disch := first | with_reducible rfl | omega | (simp only [nA, nS, nD] <;> omega) | fail) only [go_sem, ↓reduceIte, Nat.reduceEqDiff, Nat.reduceAdd, Nat.reduceSub, Nat.reduceMul, reduceCtorEq, Nat.reduceLeDiff, e7, e8, e9, e0, hi', hq (nat_cst i), hc, hn0 (by omega), encI, wr_succ]
    refine ⟨_, rfl, (by simp [ev_c, ev_put, e7] <;> rfl), (by simp [ev_c, ev_put, e8] <;> rfl), (by simp [ev_c, ev_put] <;> rfl), ?_⟩
    rw [List.take_succ_eq_append_getElem hi, List.foldl_append]
    simp only [ev_put, ↓reduceIte, Nat.reduceEqDiff, List.foldl]
  · rintro s ⟨tm, rfl, e7, e8, e9, e0⟩
    simp (maxSteps := 1000000) (implicitDefEqProofs := false) (disch := first | with_reducible rfl | omega | (simp only [nA, nS, nD] <;> omega) | fail) only [go_sem, ↓reduceIte, Nat.reduceEqDiff, Nat.reduceAdd, Nat.reduceSub, Nat.reduceMul, reduceCtorEq, Nat.reduceLeDiff, e7, e8, e9, e0, Int.lt_irrefl]
    rw [List.take_length]

theorem least_use {h : H} {x : V} {l : List Int} (hx : SlAt h x 1 (l.map encI)) {n : Int} {Q : V → H → Prop} (q : Q (.int .i64 (l.foldl min n)) h) : Ev fnG fastA (.fn 131 [] []) [.int .i64 n, x] h Q := by
  rw [least_ev hx]; exact q
def sayLo (m : Ml) (w : Wg) : Int := (100 * max 0 (w.reads - m.errs) + (100 + w.hi) - 1).tdiv (100 + w.hi)
def sayHi (m : Ml) (w : Wg) : Int := min 10000 ((100 * (w.reads + m.errs)).tdiv (100 + w.lo))
theorem tdiv_le {a b : Int} (ha : 0 ≤ a) (hb : 1 ≤ b) : 0 ≤ a.tdiv b ∧ a.tdiv b ≤ a := by
  rw [Int.tdiv_eq_ediv_of_nonneg ha]
  exact ⟨Int.ediv_nonneg ha (by omega), Int.ediv_le_self _ ha⟩
theorem says_ev {h : H} {d : Nat} {m : Ml} (hw : h.wf) (hd : DkAt h d m) (g : Good m) {i : Nat} (hi : i < m.wgs.length) : Ev fnG fastA (.fn 94 [] []) [.ptr d 0, .int .i64 (i : Int)] h fun v h' =>
    v = .agg [.int .i64 (sayLo m m.wgs[i]), .int .i64 (sayHi m m.wgs[i])] ∧ h.Sub h' := by
  obtain ⟨pm, l, L, W, g1, g2, aL, aW, ap⟩ := hd
  have hld := hw d _ g1
  obtain ⟨b, o, c, cs, rfl, hc, hq, hg, hn, hn0⟩ := aW.at hi
  have hlb : b < h.next := by obtain ⟨k, hk⟩ := H.cells_eq hc; exact hw b _ hk
  have w1 := g.wg _ (List.getElem_mem hi)
  have w2 := g.errs
  refine Ev_body (fd := c94) rfl rfl rfl ?_
  have q1 := tdiv_le (a := 100 * max 0 (m.wgs[i].reads - m.errs) + (100 + m.wgs[i].hi) - 1) (b := 100 + m.wgs[i].hi) (by omega) (by omega)
  have q2 := tdiv_le (a := 100 * (m.wgs[i].reads + m.errs)) (b := 100 + m.wgs[i].lo) (by omega) (by omega)
  simp (maxSteps := 1000000) (implicitDefEqProofs := false) (disch := first | with_reducible rfl | omega | (simp only [nA, nS, nD] <;> omega) | fail) only [c94, go_sem, ↓reduceIte, Nat.reduceEqDiff, Nat.reduceAdd, Nat.reduceSub, Nat.reduceMul, reduceCtorEq, Nat.reduceLeDiff, cells_of g1, hq (nat_cst i), hc, hg, encW, wr_in, q_ar_quo]
  refine least_use (l := [(100 * (m.wgs[i].reads + m.errs)).tdiv (100 + m.wgs[i].lo)]) (SlAt.new _ (by simp only [H.next_add]) (by rfl) (by rfl) (by simp [encI]) (by simp)) ?_
  simp (maxSteps := 1000000) (implicitDefEqProofs := false) (disch := first | with_reducible rfl | omega | (simp only [nA, nS, nD] <;> omega) | fail) only [go_sem, ↓reduceIte, Nat.reduceEqDiff, Nat.reduceAdd, Nat.reduceSub, Nat.reduceMul, reduceCtorEq, Nat.reduceLeDiff, cells_of g1, List.foldl]
  exact ⟨rfl, (by repeat (first | assumption | exact H.Sub.refl (by assumption) | refine H.Sub.add ?_ _ | refine H.Sub.set ?_ (by first | omega | (simp only [H.next_add, H.next_set, H.next_del] <;> omega)) (by first | omega | (simp only [H.next_add, H.next_set, H.next_del] <;> omega)) (by assumption) _))⟩
end Go.Ab.Try
set_option linter.unusedSimpArgs false
set_option linter.unusedVariables false
namespace Go.Ab.Try
theorem allOne_flat {α : Type} {enc : α → List V} (h : ∀ a, allOne (enc a) = true) (l : List α) : allOne (l.map enc).flatten = true := by
  rw [allOne_eq]
  intro v hv
  obtain ⟨r, hr, hvr⟩ := List.mem_flatten.1 hv
  obtain ⟨a, _, rfl⟩ := List.mem_map.1 hr
  exact allOne_eq.1 (h a) v hvr
theorem dupLot_ev {h : H} {x : V} {l : List Lt} (hw : h.wf) (hx : SlAt h x 2 (l.map encL)) (hl : l.length ≤ 1000000) (Q : V → H → Prop) :
    Ev fnG fastA (.fn 73 [] []) [x] h Q = Q (.sl h.next 0 l.length (.fix l.length)) (h.add (.cells .rw (l.map encL).flatten)) := by
  refine Ev.det (Ev_body (fd := c73) rfl rfl rfl ?_) Q
  simp (maxSteps := 1000000) (implicitDefEqProofs := false) (disch := first | with_reducible rfl | omega | (simp only [nA, nS, nD] <;> omega) | fail) only [c73, go_sem, ↓reduceIte, Nat.reduceEqDiff, Nat.reduceAdd, Nat.reduceSub, Nat.reduceMul, reduceCtorEq, Nat.reduceLeDiff, hx.lenE, a_msl_0n]
  have := dup_core (by_ := 16) (z := [.int .i64 0, .int .i64 0]) hx hw rfl (by omega) (allOne_flat (fun a => rfl) l)
  rw [List.length_map] at this
  simp (maxSteps := 1000000) (implicitDefEqProofs := false) (disch := first | with_reducible rfl | omega | (simp only [nA, nS, nD] <;> omega) | fail) only [go_sem, ↓reduceIte, Nat.reduceEqDiff, Nat.reduceAdd, Nat.reduceSub, Nat.reduceMul, reduceCtorEq, Nat.reduceLeDiff, this]
theorem dupWg_ev {h : H} {x : V} {l : List Wg} (hw : h.wf) (hx : SlAt h x 4 (l.map encW)) (hl : l.length ≤ 1000000) (Q : V → H → Prop) :
    Ev fnG fastA (.fn 74 [] []) [x] h Q = Q (.sl h.next 0 l.length (.fix l.length)) (h.add (.cells .rw (l.map encW).flatten)) := by
  refine Ev.det (Ev_body (fd := c74) rfl rfl rfl ?_) Q
  simp (maxSteps := 1000000) (implicitDefEqProofs := false) (disch := first | with_reducible rfl | omega | (simp only [nA, nS, nD] <;> omega) | fail) only [c74, go_sem, ↓reduceIte, Nat.reduceEqDiff, Nat.reduceAdd, Nat.reduceSub, Nat.reduceMul, reduceCtorEq, Nat.reduceLeDiff, hx.lenE, a_msl_0n]
  have := dup_core (by_ := 32) (z := [.int .i64 0, .int .i64 0, .int .i64 0, .int .i64 0]) hx hw rfl (by omega) (allOne_flat (fun a => rfl) l)
  rw [List.length_map] at this
  simp (maxSteps := 1000000) (implicitDefEqProofs := false) (disch := first | with_reducible rfl | omega | (simp only [nA, nS, nD] <;> omega) | fail) only [go_sem, ↓reduceIte, Nat.reduceEqDiff, Nat.reduceAdd, Nat.reduceSub, Nat.reduceMul, reduceCtorEq, Nat.reduceLeDiff, this]
theorem dupInt_ev {h : H} {x : V} {l : List Int} (hw : h.wf) (hx : SlAt h x 1 (l.map encI)) (hl : l.length ≤ 1000000) (Q : V → H → Prop) :
    Ev fnG fastA (.fn 27 [] []) [x] h Q = Q (.sl h.next 0 l.length (.fix l.length)) (h.add (.cells .rw (l.map encI).flatten)) := by
  refine Ev.det (Ev_body (fd := c27) rfl rfl rfl ?_) Q
  simp (maxSteps := 1000000) (implicitDefEqProofs := false) (disch := first | with_reducible rfl | omega | (simp only [nA, nS, nD] <;> omega) | fail) only [c27, go_sem, ↓reduceIte, Nat.reduceEqDiff, Nat.reduceAdd, Nat.reduceSub, Nat.reduceMul, reduceCtorEq, Nat.reduceLeDiff, hx.lenE, a_msl_0n]
  have := dup_core (by_ := 8) (z := [.int .i64 0]) hx hw rfl (by omega) (allOne_flat (fun a => rfl) l)
  rw [List.length_map] at this
  simp (maxSteps := 1000000) (implicitDefEqProofs := false) (disch := first | with_reducible rfl | omega | (simp only [nA, nS, nD] <;> omega) | fail) only [go_sem, ↓reduceIte, Nat.reduceEqDiff, Nat.reduceAdd, Nat.reduceSub, Nat.reduceMul, reduceCtorEq, Nat.reduceLeDiff, this]
theorem own_ev {h : H} {v : V} {m : Ml} (hw : h.wf) (hm : MlIs h v m) (hl : m.lots.length ≤ 1000 ∧ m.wgs.length ≤ 1000) : Ev fnG fastA (.fn 18 [] []) [v] h fun u h' => h.Sub h' ∧ ∃ a b, u = .agg [.int .i64 m.errs, .sl a 0 m.lots.length (.fix m.lots.length), .sl b 0 m.wgs.length (.fix m.wgs.length)] ∧
    h.next ≤ a ∧ a < h'.next ∧ h.next ≤ b ∧ b < h'.next ∧ a ≠ b ∧ h'.get a = some (.cells .rw (m.lots.map encL).flatten) ∧ h'.get b = some (.cells .rw (m.wgs.map encW).flatten) := by
  obtain ⟨L, W, rfl, aL, aW⟩ := hm
  refine Ev_body (fd := c18) rfl rfl rfl ?_
  have s2 : h.Sub ((h.add (.cells .rw [.int .i64 m.errs, L, W])).add (.cells .rw [.int .i64 0, .nils, .nils])) := (by repeat (first | assumption | exact H.Sub.refl (by assumption) | refine H.Sub.add ?_ _ | refine H.Sub.set ?_ (by first | omega | (simp only [H.next_add, H.next_set, H.next_del] <;> omega)) (by first | omega | (simp only [H.next_add, H.next_set, H.next_del] <;> omega)) (by assumption) _))
  have s3 := s2.add (.cells .rw (m.lots.map encL).flatten)
  have w2 := s2.wf
  have w3 := s3.wf
  simp (maxSteps := 1000000) (implicitDefEqProofs := false) (disch := first | with_reducible rfl | omega | (simp only [nA, nS, nD] <;> omega) | fail) only [c18, go_sem, ↓reduceIte, Nat.reduceEqDiff, Nat.reduceAdd, Nat.reduceSub, Nat.reduceMul, reduceCtorEq, Nat.reduceLeDiff, dupLot_ev w2 (aL.mono s2) (by omega), dupWg_ev w3 (aW.mono s3) (by omega), aL.lenE, aW.lenE]
  refine ⟨(by repeat (first | assumption | exact H.Sub.refl (by assumption) | refine H.Sub.add ?_ _ | refine H.Sub.set ?_ (by first | omega | (simp only [H.next_add, H.next_set, H.next_del] <;> omega)) (by first | omega | (simp only [H.next_add, H.next_set, H.next_del] <;> omega)) (by assumption) _)), h.next + 1 + 1, h.next + 1 + 1 + 1, rfl, by omega, by omega, by omega, by omega, by omega, ?_, ?_⟩
  · simp (maxSteps := 1000000) (implicitDefEqProofs := false) (disch := first | with_reducible rfl | omega | (simp only [nA, nS, nD] <;> omega) | fail) only [go_sem, ↓reduceIte, Nat.reduceEqDiff, Nat.reduceAdd, Nat.reduceSub, Nat.reduceMul, reduceCtorEq, Nat.reduceLeDiff]
  · simp (maxSteps := 1000000) (implicitDefEqProofs := false) (disch := first | with_reducible rfl | omega | (simp only [nA, nS, nD] <;> omega) | fail) only [go_sem, ↓reduceIte, Nat.reduceEqDiff, Nat.reduceAdd, Nat.reduceSub, Nat.reduceMul, reduceCtorEq, Nat.reduceLeDiff]
theorem MlIs.own {h : H} {m : Ml} {a b : Nat} (hl : m.lots.length ≤ 1000 ∧ m.wgs.length ≤ 1000) (ha : h.get a = some (.cells .rw (m.lots.map encL).flatten)) (hb : h.get b = some (.cells .rw (m.wgs.map encW).flatten)) :
    MlIs h (.agg [.int .i64 m.errs, .sl a 0 m.lots.length (.fix m.lots.length), .sl b 0 m.wgs.length (.fix m.wgs.length)]) m := by
  have f1 : ∀ r ∈ m.lots.map encL, r.length = 2 := by simp [encL]
  have f2 : ∀ r ∈ m.wgs.map encW, r.length = 4 := by simp [encW]
  refine ⟨_, _, rfl, ⟨f1, by simp; omega, .inr ⟨a, 0, .fix m.lots.length, _, by simp, .inr (cells_of ha), getN_eq.2 ⟨?_, ?_⟩⟩⟩, ⟨f2, by simp; omega, .inr ⟨b, 0, .fix m.wgs.length, _, by simp, .inr (cells_of hb), getN_eq.2 ⟨?_, ?_⟩⟩⟩⟩
  · rw [List.drop_zero, ← flatten_len f1, List.take_length]
  · rw [flatten_len f1]; omega
  · rw [List.drop_zero, ← flatten_len f2, List.take_length]
  · rw [flatten_len f2]; omega
end Go.Ab.Try
set_option linter.unusedSimpArgs false
set_option linter.unusedVariables false
namespace Go.Ab.Try
theorem awake_eq (h : H) (Q : V → H → Prop) : Ev fnG fastA (.fn 17 [] []) [] h Q = Q (.bool true) h := Ev.det ⟨1, .bool true, h, rfl, rfl, rfl⟩ Q
def greatM (m : Ml) : Bool := decide (20 < (m.lots.length : Int) ∨ 14 < (m.wgs.length : Int))
theorem great_ev {h : H} {v : V} {m : Ml} (hw : h.wf) (hm : MlIs h v m) (Q : V → H → Prop) (q : ∀ h', h.Sub h' → Q (.bool (greatM m)) h') : Ev fnG fastA (.fn 16 [] []) [v] h Q := by
  obtain ⟨L, W, rfl, aL, aW⟩ := hm
  refine Ev_body (fd := c16) rfl rfl rfl ?_
  by_cases c1 : 20 < (m.lots.length : Int)
  · simp (maxSteps := 1000000) (implicitDefEqProofs := false) (disch := first | with_reducible rfl | omega | (simp only [nA, nS, nD] <;> omega) | fail) only [c16, go_sem, ↓reduceIte, Nat.reduceEqDiff, Nat.reduceAdd, Nat.reduceSub, Nat.reduceMul, reduceCtorEq, Nat.reduceLeDiff, aL.lenE, aW.lenE, c1]
    have := q _ ((H.Sub.refl hw).add (.cells .rw [.int .i64 m.errs, L, W]))
    simpa [greatM, c1] using this
  · simp (maxSteps := 1000000) (implicitDefEqProofs := false) (disch := first | with_reducible rfl | omega | (simp only [nA, nS, nD] <;> omega) | fail) only [c16, go_sem, ↓reduceIte, Nat.reduceEqDiff, Nat.reduceAdd, Nat.reduceSub, Nat.reduceMul, reduceCtorEq, Nat.reduceLeDiff, aL.lenE, aW.lenE, c1]
    have := q _ ((H.Sub.refl hw).add (.cells .rw [.int .i64 m.errs, L, W]))
    simpa [greatM, c1] using this
theorem off_ev (n lo hi : Int) (h : H) (Q : V → H → Prop) : Ev fnG fastA (.fn 75 [] []) [.int .i64 n, .int .i64 lo, .int .i64 hi] h Q = Q (.bool (!inB n lo hi)) h := by
  refine Ev.det (Ev_body (fd := c75) rfl rfl rfl ?_) Q
  by_cases h1 : n < lo
  · have : inB n lo hi = false := by simp [inB]; omega
    simp only [c75, go_sem, ↓reduceIte, Nat.reduceEqDiff, Nat.reduceAdd, Nat.reduceSub, Nat.reduceMul, reduceCtorEq, Nat.reduceLeDiff, h1, this]
  · have : (!inB n lo hi) = decide (hi < n) := by rw [Bool.eq_iff_iff]; simp [inB]; omega
    simp only [c75, go_sem, ↓reduceIte, Nat.reduceEqDiff, Nat.reduceAdd, Nat.reduceSub, Nat.reduceMul, reduceCtorEq, Nat.reduceLeDiff, h1, this]
def rowL (l : Lt) : List Int := [l.frm, l.kind]
def rowW (w : Wg) : List Int := [w.lot, w.reads, w.lo, w.hi]
instance : DecidableEq Lt := fun a b => decidable_of_iff (rowL a = rowL b) ⟨fun h => by cases a; cases b; simp [rowL] at h; simp [h], fun h => by rw [h]⟩
instance : DecidableEq Wg := fun a b => decidable_of_iff (rowW a = rowW b) ⟨fun h => by cases a; cases b; simp [rowW] at h; simp [h], fun h => by rw [h]⟩
instance : DecidableEq Ml := fun a b => decidable_of_iff (a.errs = b.errs ∧ a.lots = b.lots ∧ a.wgs = b.wgs) ⟨fun h => by cases a; cases b; simp at h; simp [h], fun h => by rw [h]; exact ⟨rfl, rfl, rfl⟩⟩
theorem rowL_inj {a b : List Lt} : a.map rowL = b.map rowL ↔ a = b := by
  refine ⟨fun h => ?_, fun h => by rw [h]⟩
  refine List.map_inj_right (f := rowL) (fun x y hxy => ?_) |>.1 h
  cases x; cases y; simp [rowL] at hxy; simp [hxy]
theorem rowW_inj {a b : List Wg} : a.map rowW = b.map rowW ↔ a = b := by
  refine ⟨fun h => ?_, fun h => by rw [h]⟩
  refine List.map_inj_right (f := rowW) (fun x y hxy => ?_) |>.1 h
  cases x; cases y; simp [rowW] at hxy; simp [hxy]
theorem eqLots_ev {l r : List Lt} {h : H} {x y : V} (hx : SlAt h x 2 (l.map encL)) (hy : SlAt h y 2 (r.map encL)) (Q : V → H → Prop) : Ev fnG fastA (.fn 83 [] []) [x, y] h Q = Q (.bool (decide (l = r))) h := by
  rw [eqLot_ev (l := l.map rowL) (r := r.map rowL) (by rw [List.map_map]; exact hx) (by rw [List.map_map]; exact hy)]
  simp only [rowL_inj]
theorem eqWgs_ev {l r : List Wg} {h : H} {x y : V} (hx : SlAt h x 4 (l.map encW)) (hy : SlAt h y 4 (r.map encW)) (Q : V → H → Prop) : Ev fnG fastA (.fn 84 [] []) [x, y] h Q = Q (.bool (decide (l = r))) h := by
  rw [eqWg_ev (l := l.map rowW) (r := r.map rowW) (by rw [List.map_map]; exact hx) (by rw [List.map_map]; exact hy)]
  simp only [rowW_inj]
theorem same_ev {h : H} {v u : V} {m n : Ml} (hw : h.wf) (hm : MlIs h v m) (hn : MlIs h u n) (Q : V → H → Prop) (q : ∀ h', h.Sub h' → Q (.bool (decide (m = n))) h') : Ev fnG fastA (.fn 26 [] []) [v, u] h Q := by
  obtain ⟨me, ml, mw⟩ := m
  obtain ⟨ne, nl, nw⟩ := n
  obtain ⟨L, W, rfl, aL, aW⟩ := hm
  obtain ⟨L', W', rfl, bL, bW⟩ := hn
  dsimp only at aL aW bL bW
  refine Ev_body (fd := c26) rfl rfl rfl ?_
  have s2 : h.Sub ((h.add (.cells .rw [.int .i64 me, L, W])).add (.cells .rw [.int .i64 ne, L', W'])) := ((H.Sub.refl hw).add _).add _
  have q' := q _ s2
  simp only [Ml.mk.injEq] at q'
  have r1 := eqLots_ev (aL.mono s2) (bL.mono s2)
  have r2 := eqWgs_ev (aW.mono s2) (bW.mono s2)
  by_cases c1 : me = ne
  · subst c1
    cases c2 : decide (ml = nl)
    · rw [c2] at r1
      simp (maxSteps := 1000000) (implicitDefEqProofs := false) (disch := first | with_reducible rfl | omega | (simp only [nA, nS, nD] <;> omega) | fail) only [c26, go_sem, ↓reduceIte, Nat.reduceEqDiff, Nat.reduceAdd, Nat.reduceSub, Nat.reduceMul, reduceCtorEq, Nat.reduceLeDiff, r1, r2, decide_eq_true rfl]
      have : ¬ (True ∧ ml = nl ∧ mw = nw) := by simp at c2; simp [c2]
      simpa [this] using q'
    · rw [c2] at r1
      simp (maxSteps := 1000000) (implicitDefEqProofs := false) (disch := first | with_reducible rfl | omega | (simp only [nA, nS, nD] <;> omega) | fail) only [c26, go_sem, ↓reduceIte, Nat.reduceEqDiff, Nat.reduceAdd, Nat.reduceSub, Nat.reduceMul, reduceCtorEq, Nat.reduceLeDiff, r1, r2, decide_eq_true rfl]
      have : ml = nl := by simpa using c2
      simpa [this] using q'
  · simp (maxSteps := 1000000) (implicitDefEqProofs := false) (disch := first | with_reducible rfl | omega | (simp only [nA, nS, nD] <;> omega) | fail) only [c26, go_sem, ↓reduceIte, Nat.reduceEqDiff, Nat.reduceAdd, Nat.reduceSub, Nat.reduceMul, reduceCtorEq, Nat.reduceLeDiff, r1, r2, c1]
    simpa [c1] using q'
theorem all_step {α : Type} {l : List α} {p : α → Bool} {i : Nat} (hi : i < l.length) (h : (l.take i).all p = true) (h2 : p l[i] = true) : (l.take (i + 1)).all p = true := by
  rw [List.take_succ_eq_append_getElem hi, List.all_append, h]; simp [h2]
theorem all_false {α : Type} {l : List α} {p : α → Bool} {i : Nat} (hi : i < l.length) (h2 : p l[i] = false) : l.all p = false := by
  rw [Bool.eq_false_iff]; intro h
  rw [List.all_eq_true] at h
  rw [h _ (List.getElem_mem hi)] at h2; cases h2
theorem refCheck_ev {h : H} {v : V} {m : Ml} (hw : h.wf) (hm : MlIs h v m) : Ev fnG fastA (.fn 20 [] []) [v] h fun u h' => u = .int .i64 (check m) ∧ h.Sub h' := by
  refine Ev.gen fun Q q => ?_
  obtain ⟨L, W, rfl, aL, aW⟩ := hm
  have hbL := aL.boundE
  have hbW := aW.boundE
  refine Ev_body (fd := c20) rfl rfl rfl ?_
  have hs1 : h.Sub (h.add (.cells .rw [.int .i64 m.errs, L, W])) := (H.Sub.refl hw).add _
  by_cases c1 : 1 ≤ (m.lots.length : Int) ∧ (m.lots.length : Int) ≤ 12
  case neg =>
    have e1 : inB (m.lots.length : Int) 1 12 = false := by simpa [inB] using c1
    simp (maxSteps := 1000000) (implicitDefEqProofs := false) (disch := first | with_reducible rfl | omega | (simp only [nA, nS, nD] <;> omega) | fail) only [c20, go_sem, ↓reduceIte, Nat.reduceEqDiff, Nat.reduceAdd, Nat.reduceSub, Nat.reduceMul, reduceCtorEq, Nat.reduceLeDiff, off_ev, aL.lenE, e1]
    exact q _ _ ⟨by simp [check, c1], hs1⟩
  have e1 : inB (m.lots.length : Int) 1 12 = true := by simpa [inB] using c1
  by_cases c2 : 10 < (m.wgs.length : Int)
  case pos =>
    simp (maxSteps := 1000000) (implicitDefEqProofs := false) (disch := first | with_reducible rfl | omega | (simp only [nA, nS, nD] <;> omega) | fail) only [c20, go_sem, ↓reduceIte, Nat.reduceEqDiff, Nat.reduceAdd, Nat.reduceSub, Nat.reduceMul, reduceCtorEq, Nat.reduceLeDiff, off_ev, aL.lenE, aW.lenE, e1, c2]
    exact q _ _ ⟨by simp only [check, c1, c2, not_true_eq_false, and_self, ↓reduceIte], hs1⟩
  by_cases c3 : 0 ≤ m.errs ∧ m.errs ≤ 50
  case neg =>
    have e3 : inB m.errs 0 50 = false := by simpa [inB] using c3
    simp (maxSteps := 1000000) (implicitDefEqProofs := false) (disch := first | with_reducible rfl | omega | (simp only [nA, nS, nD] <;> omega) | fail) only [c20, go_sem, ↓reduceIte, Nat.reduceEqDiff, Nat.reduceAdd, Nat.reduceSub, Nat.reduceMul, reduceCtorEq, Nat.reduceLeDiff, off_ev, aL.lenE, aW.lenE, e1, c2, e3]
    exact q _ _ ⟨by simp only [check, c1, c2, c3, not_true_eq_false, not_false_eq_true, and_self, ↓reduceIte], hs1⟩
  have e3 : inB m.errs 0 50 = true := by simpa [inB] using c3
  simp (maxSteps := 1000000) (implicitDefEqProofs := false) (disch := first | with_reducible rfl | omega | (simp only [nA, nS, nD] <;> omega) | fail) only [c20, go_sem, ↓reduceIte, Nat.reduceEqDiff, Nat.reduceAdd, Nat.reduceSub, Nat.reduceMul, reduceCtorEq, Nat.reduceLeDiff, off_ev, aL.lenE, aW.lenE, e1, c2, e3]
  refine W_count m.wgs.length (fun i s => ∃ tm h', s = ⟨tm, h', []⟩ ∧ (h.add (.cells .rw [.int .i64 m.errs, L, W])).Sub h' ∧ (Opd.t 1).ev tm = .ptr h.next 0 ∧ (Opd.t 3).ev tm = .int .i64 (i : Int) ∧ (m.wgs.take i).all boundedW = true)
    ?_ ?_ (i := 0) (Nat.zero_le _) ⟨_, _, rfl, H.Sub.refl hs1.wf, (by simp [ev_c, ev_put] <;> rfl), (by simp [ev_c, ev_put] <;> rfl), rfl⟩
  · rintro i s hi ⟨tm, h', rfl, hs, e1', e3', e9⟩
    have hi' : (i : Int) < (m.wgs.length : Int) := by omega
    have g1 : h'.cells h.next = some [.int .i64 m.errs, L, W] := hs.cells (cells_add_new rfl)
    have l1 := hs.next
    rw [H.next_add] at l1
    obtain ⟨b, o, c, cs, rfl, hc, hq, hg, hn, hn0⟩ := (aW.mono (hs1.trans hs)).at hi
    have hs4 := hs.add (.cells .rw (encW m.wgs[i]))
    have hlen := aW.lenE
    by_cases d1 : 0 ≤ m.wgs[i].reads ∧ m.wgs[i].reads ≤ 10000 <;> by_cases d2 : 0 ≤ m.wgs[i].lo ∧ m.wgs[i].lo ≤ 60 <;> by_cases d3 : 0 ≤ m.wgs[i].hi ∧ m.wgs[i].hi ≤ 60 <;>
      (have f1 : inB m.wgs[i].reads 0 10000 = decide (0 ≤ m.wgs[i].reads ∧ m.wgs[i].reads ≤ 10000) := rfl
       have f2 : inB m.wgs[i].lo 0 60 = decide (0 ≤ m.wgs[i].lo ∧ m.wgs[i].lo ≤ 60) := rfl
       have f3 : inB m.wgs[i].hi 0 60 = decide (0 ≤ m.wgs[i].hi ∧ m.wgs[i].hi ≤ 60) := rfl
       simp (maxSteps := 1000000) (implicitDefEqProofs := false) (disch := first | with_reducible rfl | omega | (simp only [nA, nS, nD] <;> omega) | fail) only [go_sem, ↓reduceIte, Nat.reduceEqDiff, Nat.reduceAdd, Nat.reduceSub, Nat.reduceMul, reduceCtorEq, Nat.reduceLeDiff, e1', e3', g1, hlen, hi', hq (nat_cst i), hc, hg, encW, off_ev, f1, f2, f3, d1, d2, d3, and_self, wr_succ])
    case pos => exact ⟨_, _, rfl, hs4, (by simp [ev_c, ev_put, e1'] <;> rfl), (by simp [ev_c, ev_put] <;> rfl), all_step hi e9 (by simp only [boundedW, d1, d2, d3, and_self, decide_true])⟩
    all_goals
      have hf : m.wgs.all boundedW = false := all_false hi (by simp only [boundedW, d1, d2, d3, and_self, and_false, false_and, decide_false])
      exact q _ _ ⟨by simp only [check, c1, c2, c3, hf, not_true_eq_false, not_false_eq_true, and_self, ↓reduceIte], hs1.trans hs4⟩
  · rintro s ⟨tm, h', rfl, hs, e1', e3', e9⟩
    rw [List.take_length] at e9
    have c4 := e9
    have g1 : h'.cells h.next = some [.int .i64 m.errs, L, W] := hs.cells (cells_add_new rfl)
    simp (maxSteps := 1000000) (implicitDefEqProofs := false) (disch := first | with_reducible rfl | omega | (simp only [nA, nS, nD] <;> omega) | fail) only [go_sem, ↓reduceIte, Nat.reduceEqDiff, Nat.reduceAdd, Nat.reduceSub, Nat.reduceMul, reduceCtorEq, Nat.reduceLeDiff, e1', e3', g1, aL.lenE, aW.lenE, Int.lt_irrefl]
    clear e3'
    refine W_count m.lots.length (fun i s => ∃ tm h', s = ⟨tm, h', []⟩ ∧ (h.add (.cells .rw [.int .i64 m.errs, L, W])).Sub h' ∧ (Opd.t 1).ev tm = .ptr h.next 0 ∧ (Opd.t 5).ev tm = .int .i64 (i : Int) ∧ (m.lots.take i).all (fun l => allowedK l.kind) = true)
      ?_ ?_ (i := 0) (Nat.zero_le _) ⟨_, _, rfl, hs, (by simp [ev_c, ev_put, e1'] <;> rfl), (by simp [ev_c, ev_put] <;> rfl), rfl⟩ <;> clear g1 e9 e1' hs tm h'
    · rintro i s hi ⟨tm, h', rfl, hs, e1', e3', e9⟩
      have hi' : (i : Int) < (m.lots.length : Int) := by omega
      have g1 : h'.cells h.next = some [.int .i64 m.errs, L, W] := hs.cells (cells_add_new rfl)
      have l1 := hs.next
      rw [H.next_add] at l1
      have hlen := aL.lenE
      have hlen2 := aW.lenE
      obtain ⟨b, o, c, cs, rfl, hc, hq, hg, hn, hn0⟩ := (aL.mono (hs1.trans hs)).at hi
      have f1 : inB m.lots[i].kind 0 3 = allowedK m.lots[i].kind := rfl
      have hn1 : nth (o + i * 2 + 1) cs = some (.int .i64 m.lots[i].kind) := hn 1 (by omega)
      cases d1 : allowedK m.lots[i].kind
      · simp (maxSteps := 1000000) (implicitDefEqProofs := false) (disch := first | with_reducible rfl | omega | (simp only [nA, nS, nD] <;> omega) | fail) only [go_sem, ↓reduceIte, Nat.reduceEqDiff, Nat.reduceAdd, Nat.reduceSub, Nat.reduceMul, reduceCtorEq, Nat.reduceLeDiff, e1', e3', g1, hlen, hlen2, hi', hq (nat_cst i), hc, hn1, off_ev, f1, d1]
        have hf : m.lots.all (fun l => allowedK l.kind) = false := all_false hi d1
        exact q _ _ ⟨by simp only [check, c1, c2, c3, c4, hf, not_true_eq_false, not_false_eq_true, and_self, ↓reduceIte, Bool.true_eq_false], hs1.trans hs⟩
      · simp (maxSteps := 1000000) (implicitDefEqProofs := false) (disch := first | with_reducible rfl | omega | (simp only [nA, nS, nD] <;> omega) | fail) only [go_sem, ↓reduceIte, Nat.reduceEqDiff, Nat.reduceAdd, Nat.reduceSub, Nat.reduceMul, reduceCtorEq, Nat.reduceLeDiff, e1', e3', g1, hlen, hlen2, hi', hq (nat_cst i), hc, hn1, off_ev, f1, d1, wr_succ]
        exact ⟨_, _, rfl, hs, (by simp [ev_c, ev_put, e1'] <;> rfl), (by simp [ev_c, ev_put] <;> rfl), all_step hi e9 d1⟩
    · rintro s ⟨tm, h', rfl, hs, e1', e3', e9⟩
      rw [List.take_length] at e9
      have c5 := e9
      have g1 : h'.cells h.next = some [.int .i64 m.errs, L, W] := hs.cells (cells_add_new rfl)
      simp (maxSteps := 1000000) (implicitDefEqProofs := false) (disch := first | with_reducible rfl | omega | (simp only [nA, nS, nD] <;> omega) | fail) only [go_sem, ↓reduceIte, Nat.reduceEqDiff, Nat.reduceAdd, Nat.reduceSub, Nat.reduceMul, reduceCtorEq, Nat.reduceLeDiff, e1', e3', g1, aL.lenE, aW.lenE, Int.lt_irrefl]
      clear e3'
      refine W_count m.lots.length (fun i s => ∃ tm h', s = ⟨tm, h', []⟩ ∧ (h.add (.cells .rw [.int .i64 m.errs, L, W])).Sub h' ∧ (Opd.t 1).ev tm = .ptr h.next 0 ∧ (Opd.t 6).ev tm = .int .i64 (i : Int) ∧ fromsOk m.lots 0 = fromsOk (m.lots.drop i) i)
        ?_ ?_ (i := 0) (Nat.zero_le _) ⟨_, _, rfl, hs, (by simp [ev_c, ev_put, e1'] <;> rfl), (by simp [ev_c, ev_put] <;> rfl), rfl⟩ <;> clear g1 e9 e1' hs tm h'
      · rintro i s hi ⟨tm, h', rfl, hs, e1', e3', e9⟩
        have hi' : (i : Int) < (m.lots.length : Int) := by omega
        have g1 : h'.cells h.next = some [.int .i64 m.errs, L, W] := hs.cells (cells_add_new rfl)
        have l1 := hs.next
        rw [H.next_add] at l1
        have hlen := aL.lenE
        have hlen2 := aW.lenE
        obtain ⟨b, o, c, cs, rfl, hc, hq, hg, hn, hn0⟩ := (aL.mono (hs1.trans hs)).at hi
        have hn1 : nth (o + i * 2) cs = some (.int .i64 m.lots[i].frm) := hn0 (by omega)
        cases d1 : inB m.lots[i].frm (-1) ((i : Int) - 1)
        · simp (maxSteps := 1000000) (implicitDefEqProofs := false) (disch := first | with_reducible rfl | omega | (simp only [nA, nS, nD] <;> omega) | fail) only [go_sem, ↓reduceIte, Nat.reduceEqDiff, Nat.reduceAdd, Nat.reduceSub, Nat.reduceMul, reduceCtorEq, Nat.reduceLeDiff, e1', e3', g1, hlen, hlen2, hi', hq (nat_cst i), hc, hn1, wr_in, off_ev, d1]
          have c6 : fromsOk m.lots 0 = false := by rw [e9, fromsOk_miss hi (by simpa [inB] using d1)]
          exact q _ _ ⟨by simp only [check, c1, c2, c3, c4, c5, c6, not_true_eq_false, not_false_eq_true, and_self, ↓reduceIte, Bool.true_eq_false], hs1.trans hs⟩
        · simp (maxSteps := 1000000) (implicitDefEqProofs := false) (disch := first | with_reducible rfl | omega | (simp only [nA, nS, nD] <;> omega) | fail) only [go_sem, ↓reduceIte, Nat.reduceEqDiff, Nat.reduceAdd, Nat.reduceSub, Nat.reduceMul, reduceCtorEq, Nat.reduceLeDiff, e1', e3', g1, hlen, hlen2, hi', hq (nat_cst i), hc, hn1, wr_in, off_ev, d1]
          exact ⟨_, _, rfl, hs, (by simp [ev_c, ev_put, e1'] <;> rfl), (by simp [ev_c, ev_put] <;> rfl), by rw [e9, fromsOk_hit hi (by simpa [inB] using d1)]⟩
      · rintro s ⟨tm, h', rfl, hs, e1', e3', e9⟩
        have c6 : fromsOk m.lots 0 = true := by rw [e9]; simp [fromsOk]
        have g1 : h'.cells h.next = some [.int .i64 m.errs, L, W] := hs.cells (cells_add_new rfl)
        simp (maxSteps := 1000000) (implicitDefEqProofs := false) (disch := first | with_reducible rfl | omega | (simp only [nA, nS, nD] <;> omega) | fail) only [go_sem, ↓reduceIte, Nat.reduceEqDiff, Nat.reduceAdd, Nat.reduceSub, Nat.reduceMul, reduceCtorEq, Nat.reduceLeDiff, e1', e3', g1, aL.lenE, aW.lenE, Int.lt_irrefl]
        clear e3'
        refine W_count m.wgs.length (fun i s => ∃ tm h', s = ⟨tm, h', []⟩ ∧ (h.add (.cells .rw [.int .i64 m.errs, L, W])).Sub h' ∧ (Opd.t 1).ev tm = .ptr h.next 0 ∧ (Opd.t 7).ev tm = .int .i64 (i : Int) ∧ (m.wgs.take i).all (fun w => inB w.lot 0 ((m.lots.length : Int) - 1)) = true)
          ?_ ?_ (i := 0) (Nat.zero_le _) ⟨_, _, rfl, hs, (by simp [ev_c, ev_put, e1'] <;> rfl), (by simp [ev_c, ev_put] <;> rfl), rfl⟩ <;> clear g1 e9 e1' hs tm h'
        · rintro i s hi ⟨tm, h', rfl, hs, e1', e3', e9⟩
          have hi' : (i : Int) < (m.wgs.length : Int) := by omega
          have g1 : h'.cells h.next = some [.int .i64 m.errs, L, W] := hs.cells (cells_add_new rfl)
          have l1 := hs.next
          rw [H.next_add] at l1
          have hlen := aW.lenE
          have hlen2 := aL.lenE
          obtain ⟨b, o, c, cs, rfl, hc, hq, hg, hn, hn0⟩ := (aW.mono (hs1.trans hs)).at hi
          have hn1 : nth (o + i * 4) cs = some (.int .i64 m.wgs[i].lot) := hn0 (by omega)
          cases d1 : inB m.wgs[i].lot 0 ((m.lots.length : Int) - 1)
          · simp (maxSteps := 1000000) (implicitDefEqProofs := false) (disch := first | with_reducible rfl | omega | (simp only [nA, nS, nD] <;> omega) | fail) only [go_sem, ↓reduceIte, Nat.reduceEqDiff, Nat.reduceAdd, Nat.reduceSub, Nat.reduceMul, reduceCtorEq, Nat.reduceLeDiff, e1', e3', g1, hlen, hlen2, hi', hq (nat_cst i), hc, hn1, off_ev, d1, wr_in, aL.lenE]
            have hf : m.wgs.all (fun w => inB w.lot 0 ((m.lots.length : Int) - 1)) = false := all_false hi d1
            exact q _ _ ⟨by simp only [check, c1, c2, c3, c4, c5, c6, hf, not_true_eq_false, not_false_eq_true, and_self, ↓reduceIte, Bool.true_eq_false], hs1.trans hs⟩
          · simp (maxSteps := 1000000) (implicitDefEqProofs := false) (disch := first | with_reducible rfl | omega | (simp only [nA, nS, nD] <;> omega) | fail) only [go_sem, ↓reduceIte, Nat.reduceEqDiff, Nat.reduceAdd, Nat.reduceSub, Nat.reduceMul, reduceCtorEq, Nat.reduceLeDiff, e1', e3', g1, hlen, hlen2, hi', hq (nat_cst i), hc, hn1, off_ev, d1, wr_in, aL.lenE, wr_succ]
            exact ⟨_, _, rfl, hs, (by simp [ev_c, ev_put, e1'] <;> rfl), (by simp [ev_c, ev_put] <;> rfl), all_step hi e9 d1⟩
        · rintro s ⟨tm, h', rfl, hs, e1', e3', e9⟩
          rw [List.take_length] at e9
          have c7 := e9
          have g1 : h'.cells h.next = some [.int .i64 m.errs, L, W] := hs.cells (cells_add_new rfl)
          simp (maxSteps := 1000000) (implicitDefEqProofs := false) (disch := first | with_reducible rfl | omega | (simp only [nA, nS, nD] <;> omega) | fail) only [go_sem, ↓reduceIte, Nat.reduceEqDiff, Nat.reduceAdd, Nat.reduceSub, Nat.reduceMul, reduceCtorEq, Nat.reduceLeDiff, e1', e3', g1, aL.lenE, aW.lenE, Int.lt_irrefl]
          clear e3'
          refine W_count m.wgs.length (fun i s => ∃ tm h', s = ⟨tm, h', []⟩ ∧ (h.add (.cells .rw [.int .i64 m.errs, L, W])).Sub h' ∧ (Opd.t 1).ev tm = .ptr h.next 0 ∧ (Opd.t 8).ev tm = .int .i64 (i : Int) ∧ (m.wgs.take i).all (fun w => decide (w.lo ≤ w.hi)) = true)
            ?_ ?_ (i := 0) (Nat.zero_le _) ⟨_, _, rfl, hs, (by simp [ev_c, ev_put, e1'] <;> rfl), (by simp [ev_c, ev_put] <;> rfl), rfl⟩ <;> clear g1 e9 e1' hs tm h'
          · rintro i s hi ⟨tm, h', rfl, hs, e1', e3', e9⟩
            have hi' : (i : Int) < (m.wgs.length : Int) := by omega
            have g1 : h'.cells h.next = some [.int .i64 m.errs, L, W] := hs.cells (cells_add_new rfl)
            have l1 := hs.next
            rw [H.next_add] at l1
            have hlen := aW.lenE
            have hlen2 := aL.lenE
            obtain ⟨b, o, c, cs, rfl, hc, hq, hg, hn, hn0⟩ := (aW.mono (hs1.trans hs)).at hi
            have hn1 : nth (o + i * 4 + 2) cs = some (.int .i64 m.wgs[i].lo) := hn 2 (by omega)
            have hn2 : nth (o + i * 4 + 2 + 1) cs = some (.int .i64 m.wgs[i].hi) := hn 3 (by omega)
            have f1 : decide (m.wgs[i].hi < m.wgs[i].lo) = !decide (m.wgs[i].lo ≤ m.wgs[i].hi) := by rw [Bool.eq_iff_iff]; simp
            cases d1 : decide (m.wgs[i].lo ≤ m.wgs[i].hi)
            · simp (maxSteps := 1000000) (implicitDefEqProofs := false) (disch := first | with_reducible rfl | omega | (simp only [nA, nS, nD] <;> omega) | fail) only [go_sem, ↓reduceIte, Nat.reduceEqDiff, Nat.reduceAdd, Nat.reduceSub, Nat.reduceMul, reduceCtorEq, Nat.reduceLeDiff, e1', e3', g1, hlen, hlen2, hi', hq (nat_cst i), hc, hn1, hn2, f1, d1]
              have hf : m.wgs.all (fun w => decide (w.lo ≤ w.hi)) = false := all_false hi d1
              exact q _ _ ⟨by simp only [check, c1, c2, c3, c4, c5, c6, c7, hf, not_true_eq_false, not_false_eq_true, and_self, ↓reduceIte, Bool.true_eq_false], hs1.trans hs⟩
            · simp (maxSteps := 1000000) (implicitDefEqProofs := false) (disch := first | with_reducible rfl | omega | (simp only [nA, nS, nD] <;> omega) | fail) only [go_sem, ↓reduceIte, Nat.reduceEqDiff, Nat.reduceAdd, Nat.reduceSub, Nat.reduceMul, reduceCtorEq, Nat.reduceLeDiff, e1', e3', g1, hlen, hlen2, hi', hq (nat_cst i), hc, hn1, hn2, f1, d1, wr_succ]
              exact ⟨_, _, rfl, hs, (by simp [ev_c, ev_put, e1'] <;> rfl), (by simp [ev_c, ev_put] <;> rfl), all_step hi e9 d1⟩
          · rintro s ⟨tm, h', rfl, hs, e1', e3', e9⟩
            rw [List.take_length] at e9
            have c8 := e9
            have g1 : h'.cells h.next = some [.int .i64 m.errs, L, W] := hs.cells (cells_add_new rfl)
            simp (maxSteps := 1000000) (implicitDefEqProofs := false) (disch := first | with_reducible rfl | omega | (simp only [nA, nS, nD] <;> omega) | fail) only [go_sem, ↓reduceIte, Nat.reduceEqDiff, Nat.reduceAdd, Nat.reduceSub, Nat.reduceMul, reduceCtorEq, Nat.reduceLeDiff, e1', e3', g1, aL.lenE, aW.lenE, Int.lt_irrefl]
            exact q _ _ ⟨by simp only [check, c1, c2, c3, c4, c5, c6, c7, c8, not_true_eq_false, not_false_eq_true, and_self, ↓reduceIte, Bool.true_eq_false], hs1.trans hs⟩
end Go.Ab.Try
set_option linter.unusedSimpArgs false
set_option linter.unusedVariables false
namespace Go.Ab.Try
def MlOwn (h0 h : H) (v : V) (m : Ml) : Prop := ∃ L W, v = .agg [.int .i64 m.errs, L, W] ∧ OwnC h0 h L 2 (m.lots.map encL) ∧ OwnC h0 h W 4 (m.wgs.map encW) ∧ ∀ b, blkOf L b → ¬ blkOf W b
theorem MlOwn.mono {h0 h h' : H} {v : V} {m : Ml} (a : MlOwn h0 h v m) (hs : h.Sub h') : MlOwn h0 h' v m := by
  obtain ⟨L, W, e, a1, a2, a3⟩ := a; exact ⟨L, W, e, a1.mono hs, a2.mono hs, a3⟩
theorem MlOwn.is {h0 h : H} {v : V} {m : Ml} (a : MlOwn h0 h v m) (hl : m.lots.length ≤ 1000 ∧ m.wgs.length ≤ 1000) : MlIs h v m := by
  obtain ⟨L, W, e, a1, a2, a3⟩ := a
  exact ⟨L, W, e, a1.sl (by simp; omega), a2.sl (by simp; omega)⟩
theorem theirs_own {h : H} {v : V} {m : Ml} (hw : h.wf) (hm : MlIs h v m) (hl : m.lots.length ≤ 1000 ∧ m.wgs.length ≤ 1000) (Q : V → H → Prop) (q : ∀ u h', h.Sub h' → MlOwn h h' u m → Q u h') : Ev fnG fastA (.fn 19 [] []) [v] h Q := by
  obtain ⟨L, W, rfl, aL, aW⟩ := hm
  have hbL := aL.boundE
  have hbW := aW.boundE
  refine Ev_body (fd := c19) rfl rfl rfl ?_
  have s3 : h.Sub (((h.add (.cells .rw [.int .i64 m.errs, L, W])).add (.cells .rw [.int .i64 0, .nils, .nils])).add (.cells .rw [.int .i64 m.errs, .nils, .nils])) := (((H.Sub.refl hw).add _).add _).add _
  simp (maxSteps := 1000000) (implicitDefEqProofs := false) (disch := first | with_reducible rfl | omega | (simp only [nA, nS, nD] <;> omega) | fail) only [c19, go_sem, ↓reduceIte, Nat.reduceEqDiff, Nat.reduceAdd, Nat.reduceSub, Nat.reduceMul, reduceCtorEq, Nat.reduceLeDiff, aL.lenE]
  refine W_count m.lots.length (fun i s => ∃ tm h' x, s = ⟨tm, h', []⟩ ∧ OwnSl h h' x 2 ((m.lots.take i).map encL) ∧ h.next + 2 < h'.next ∧ (Opd.t 1).ev tm = .ptr h.next 0 ∧ (Opd.t 2).ev tm = .ptr (h.next + 1) 0 ∧ (Opd.t 3).ev tm = .ptr (h.next + 1 + 1) 0 ∧
      (Opd.t 12).ev tm = L ∧ (Opd.t 13).ev tm = .int .i64 (m.lots.length : Int) ∧ (Opd.t 14).ev tm = .int .i64 (i : Int) ∧
      h'.get h.next = some (.cells .rw [.int .i64 m.errs, L, W]) ∧ h'.get (h.next + 1) = some (.cells .rw [.int .i64 0, .nils, .nils]) ∧ h'.get (h.next + 1 + 1) = some (.cells .rw [.int .i64 m.errs, x, .nils]))
    ?_ ?_ (i := 0) (Nat.zero_le _) ⟨_, _, .nils, rfl, OwnSl.nil s3 2, by simp only [H.next_add]; omega, (by simp [ev_c, ev_put] <;> rfl), (by simp [ev_c, ev_put] <;> rfl), (by simp [ev_c, ev_put] <;> rfl), (by simp [ev_c, ev_put] <;> rfl), (by simp [ev_c, ev_put] <;> rfl), (by simp [ev_c, ev_put] <;> rfl), by simp (maxSteps := 1000000) (implicitDefEqProofs := false) (disch := first | with_reducible rfl | omega | (simp only [nA, nS, nD] <;> omega) | fail) only [go_sem, ↓reduceIte, Nat.reduceEqDiff, Nat.reduceAdd, Nat.reduceSub, Nat.reduceMul, reduceCtorEq, Nat.reduceLeDiff], by simp (maxSteps := 1000000) (implicitDefEqProofs := false) (disch := first | with_reducible rfl | omega | (simp only [nA, nS, nD] <;> omega) | fail) only [go_sem, ↓reduceIte, Nat.reduceEqDiff, Nat.reduceAdd, Nat.reduceSub, Nat.reduceMul, reduceCtorEq, Nat.reduceLeDiff], by simp (maxSteps := 1000000) (implicitDefEqProofs := false) (disch := first | with_reducible rfl | omega | (simp only [nA, nS, nD] <;> omega) | fail) only [go_sem, ↓reduceIte, Nat.reduceEqDiff, Nat.reduceAdd, Nat.reduceSub, Nat.reduceMul, reduceCtorEq, Nat.reduceLeDiff]⟩
  · rintro i s hi ⟨tm, h', x, rfl, ox, lt, e1, e2, e3, e12, e13, e14, g1, g2, g3⟩
    have hi' : (i : Int) < (m.lots.length : Int) := by omega
    have hs := ox.1
    obtain ⟨b, o, c, cs, rfl, hc, hq, hg, hn, hn0⟩ := (aL.mono hs).at hi
    simp (maxSteps := 1000000) (implicitDefEqProofs := false) (disch := first | with_reducible rfl | omega | (simp only [nA, nS, nD] <;> omega) | fail) only [go_sem, ↓reduceIte, Nat.reduceEqDiff, Nat.reduceAdd, Nat.reduceSub, Nat.reduceMul, reduceCtorEq, Nat.reduceLeDiff, e1, e2, e3, e12, e13, e14, hi', hq (nat_cst i), hc, hg, encL, cells_of g3]
    have sB : h'.Sub ((h'.add (.cells .rw [.int .i64 m.lots[i].frm, .int .i64 m.lots[i].kind])).add (.cells .rw [.int .i64 m.lots[i].frm, .int .i64 m.lots[i].kind])) := ((H.Sub.refl hs.wf).add _).add _
    have oB := ox.mono sB
    have hll : ((m.lots.take i).map encL).length ≤ 1000 := by simp; omega
    refine oB.app1 (r := encL m.lots[i]) hw rfl (by omega) (SlAt.new _ (by simp only [H.next_add]) rfl rfl (by simp [encL]) (by simp)) rfl (by omega) (by omega) fun h5 o5 k5 n5 => ?_
    have g5a := k5.2 _ _ (sB.get g1) (oB.ne (sB.get g1))
    have g5b := k5.2 _ _ (sB.get g2) (oB.ne (sB.get g2))
    have g5c := k5.2 _ _ (sB.get g3) (oB.ne (sB.get g3))
    simp only [H.next_add] at n5 o5
    simp (maxSteps := 1000000) (implicitDefEqProofs := false) (disch := first | with_reducible rfl | omega | (simp only [nA, nS, nD] <;> omega) | fail) only [go_sem, ↓reduceIte, Nat.reduceEqDiff, Nat.reduceAdd, Nat.reduceSub, Nat.reduceMul, reduceCtorEq, Nat.reduceLeDiff, e1, e2, e3, e12, e13, e14, g5a, g5b, g5c, cells_of g5c, wr_succ]
    have o6 := o5.keep (Keeps.set h5 (h.next + 1 + 1) (.cells .rw [.int .i64 m.errs, .sl (h'.next + 1 + 1) 0 (((m.lots.take i).map encL).length + 1) (.slk 0 0), .nils])) (o5.1.set (by omega) (by omega) hw _) (fun b hb e => by
      obtain ⟨_, _, _, e'⟩ := hb; cases e'; omega)
    refine ⟨_, _, _, rfl, ?_, by rw [H.next_set]; omega, (by simp [ev_c, ev_put, e1] <;> rfl), (by simp [ev_c, ev_put, e2] <;> rfl), (by simp [ev_c, ev_put, e3] <;> rfl), (by simp [ev_c, ev_put, e12] <;> rfl), (by simp [ev_c, ev_put, e13] <;> rfl), (by simp [ev_c, ev_put] <;> rfl), by rw [get_set_other (by omega)]; exact g5a, by rw [get_set_other (by omega)]; exact g5b, get_set_same rfl⟩
    rw [List.take_succ_eq_append_getElem hi, List.map_append]
    exact o6
  · rintro s ⟨tm, h', x, rfl, ox, lt, e1, e2, e3, e12, e13, e14, g1, g2, g3⟩
    rw [List.take_length] at ox
    have hs := ox.1
    simp (maxSteps := 1000000) (implicitDefEqProofs := false) (disch := first | with_reducible rfl | omega | (simp only [nA, nS, nD] <;> omega) | fail) only [go_sem, ↓reduceIte, Nat.reduceEqDiff, Nat.reduceAdd, Nat.reduceSub, Nat.reduceMul, reduceCtorEq, Nat.reduceLeDiff, e1, e2, e3, e12, e13, e14, Int.lt_irrefl, cells_of g1, aW.lenE]
    have aX := ox.sl (by simp; omega)
    refine W_count m.wgs.length (fun i s => ∃ tm h2 y, s = ⟨tm, h2, []⟩ ∧ OwnSl h h2 y 4 ((m.wgs.take i).map encW) ∧ OwnSl h h2 x 2 (m.lots.map encL) ∧ (∀ b, blkOf x b → ¬ blkOf y b) ∧ h.next + 2 < h2.next ∧ (Opd.t 1).ev tm = .ptr h.next 0 ∧ (Opd.t 2).ev tm = .ptr (h.next + 1) 0 ∧ (Opd.t 3).ev tm = .ptr (h.next + 1 + 1) 0 ∧
        (Opd.t 30).ev tm = W ∧ (Opd.t 31).ev tm = .int .i64 (m.wgs.length : Int) ∧ (Opd.t 32).ev tm = .int .i64 (i : Int) ∧
        h2.get (h.next + 1) = some (.cells .rw [.int .i64 0, .nils, .nils]) ∧ h2.get (h.next + 1 + 1) = some (.cells .rw [.int .i64 m.errs, x, y]))
      ?_ ?_ (i := 0) (Nat.zero_le _) ⟨_, _, .nils, rfl, OwnSl.nil hs 4, ox, fun b _ hb => by (obtain ⟨_, _, _, e⟩ := hb; cases e), lt, (by simp [ev_c, ev_put, e1] <;> rfl), (by simp [ev_c, ev_put, e2] <;> rfl), (by simp [ev_c, ev_put, e3] <;> rfl), (by simp [ev_c, ev_put] <;> rfl), (by simp [ev_c, ev_put] <;> rfl), (by simp [ev_c, ev_put] <;> rfl), g2, g3⟩ <;> clear e1 e2 e3 e12 e13 e14 g1 g2 g3 tm
    · rintro i s hi ⟨tm, h2, y, rfl, oy, oxx, dis, lt2, e1, e2, e3, e30, e31, e32, g2, g3⟩
      have hi' : (i : Int) < (m.wgs.length : Int) := by omega
      have hs2 := oy.1
      obtain ⟨b, o, c, cs, rfl, hc, hq, hg, hn, hn0⟩ := (aW.mono hs2).at hi
      simp (maxSteps := 1000000) (implicitDefEqProofs := false) (disch := first | with_reducible rfl | omega | (simp only [nA, nS, nD] <;> omega) | fail) only [go_sem, ↓reduceIte, Nat.reduceEqDiff, Nat.reduceAdd, Nat.reduceSub, Nat.reduceMul, reduceCtorEq, Nat.reduceLeDiff, e1, e2, e3, e30, e31, e32, hi', hq (nat_cst i), hc, hg, encW, cells_of g3]
      have sB : h2.Sub ((h2.add (.cells .rw (encW m.wgs[i]))).add (.cells .rw (encW m.wgs[i]))) := ((H.Sub.refl hs2.wf).add _).add _
      have oB := oy.mono sB
      have hll : ((m.wgs.take i).map encW).length ≤ 1000 := by simp; omega
      refine oB.app1 (r := encW m.wgs[i]) hw rfl (by omega) (SlAt.new _ (by simp only [H.next_add]) rfl rfl (by simp [encW]) (by simp)) rfl (by omega) (by omega) fun h5 o5 k5 n5 => ?_
      have g5b := k5.2 _ _ (sB.get g2) (oB.ne (sB.get g2))
      have g5c := k5.2 _ _ (sB.get g3) (oB.ne (sB.get g3))
      have ox5 := (oxx.mono sB).keep k5 o5.1 dis
      simp only [H.next_add] at n5 o5
      simp (maxSteps := 1000000) (implicitDefEqProofs := false) (disch := first | with_reducible rfl | omega | (simp only [nA, nS, nD] <;> omega) | fail) only [go_sem, ↓reduceIte, Nat.reduceEqDiff, Nat.reduceAdd, Nat.reduceSub, Nat.reduceMul, reduceCtorEq, Nat.reduceLeDiff, e1, e2, e3, e30, e31, e32, g5b, g5c, cells_of g5c, wr_succ]
      have hs6 := o5.1.set (b := h.next + 1 + 1) (by omega) (by omega) hw (.cells .rw [.int .i64 m.errs, x, .sl (h2.next + 1 + 1) 0 (((m.wgs.take i).map encW).length + 1) (.slk 0 0)])
      have k6 := Keeps.set h5 (h.next + 1 + 1) (.cells .rw [.int .i64 m.errs, x, .sl (h2.next + 1 + 1) 0 (((m.wgs.take i).map encW).length + 1) (.slk 0 0)])
      have o6 := o5.keep k6 hs6 (fun b hb e => by
        obtain ⟨_, _, _, e'⟩ := hb; cases e'; omega)
      have ox6 := ox5.keep k6 hs6 (fun b hb e => by rw [e] at hb; exact ox5.ne g5c hb)
      refine ⟨_, _, _, rfl, ?_, ox6, fun b hb hb2 => ?_, by rw [H.next_set]; omega, (by simp [ev_c, ev_put, e1] <;> rfl), (by simp [ev_c, ev_put, e2] <;> rfl), (by simp [ev_c, ev_put, e3] <;> rfl), (by simp [ev_c, ev_put, e30] <;> rfl), (by simp [ev_c, ev_put, e31] <;> rfl), (by simp [ev_c, ev_put] <;> rfl), by rw [get_set_other (by omega)]; exact g5b, get_set_same rfl⟩
      · rw [List.take_succ_eq_append_getElem hi, List.map_append]
        exact o6
      · obtain ⟨_, _, _, e'⟩ := hb2; cases e'
        have := (oxx.blk hb).2.1; omega
    · rintro s ⟨tm, h2, y, rfl, oy, oxx, dis, lt2, e1, e2, e3, e30, e31, e32, g2, g3⟩
      rw [List.take_length] at oy
      have hs6 := oy.1.set (b := h.next + 1) (by omega) (by omega) hw (.cells .rw [.int .i64 m.errs, x, y])
      have k6 := Keeps.set h2 (h.next + 1) (.cells .rw [.int .i64 m.errs, x, y])
      have o6 := oy.keep k6 hs6 (fun b hb e => by rw [e] at hb; exact oy.ne g2 hb)
      have ox6 := oxx.keep k6 hs6 (fun b hb e => by rw [e] at hb; exact oxx.ne g2 hb)
      have hx := oxx.2.2
      have hy := oy.2.2
      have fin := q _ _ hs6 ⟨x, y, rfl, ox6.c, o6.c, dis⟩
      rcases hx with ⟨rfl, _⟩ | ⟨_, rfl, _⟩ <;> rcases hy with ⟨rfl, _⟩ | ⟨_, rfl, _⟩ <;> simp (maxSteps := 1000000) (implicitDefEqProofs := false) (disch := first | with_reducible rfl | omega | (simp only [nA, nS, nD] <;> omega) | fail) only [go_sem, ↓reduceIte, Nat.reduceEqDiff, Nat.reduceAdd, Nat.reduceSub, Nat.reduceMul, reduceCtorEq, Nat.reduceLeDiff, e1, e2, e3, e30, e31, e32, Int.lt_irrefl, cells_of g3, g2] <;> exact fin
theorem theirs_ev {h : H} {v : V} {m : Ml} (hw : h.wf) (hm : MlIs h v m) (hl : m.lots.length ≤ 1000 ∧ m.wgs.length ≤ 1000) (Q : V → H → Prop) (q : ∀ u h', h.Sub h' → MlIs h' u m → Q u h') : Ev fnG fastA (.fn 19 [] []) [v] h Q :=
  theirs_own hw hm hl Q fun u h' s o => q u h' s (o.is hl)
end Go.Ab.Try
set_option linter.unusedSimpArgs false
set_option linter.unusedVariables false
namespace Go.Ab.Try
def frmAt (m : Ml) (n : Int) : Int := match m.lots[n.toNat]? with | some l => l.frm | none => -1
def lineF (m : Ml) : Nat → Int → List Int
  | 0, _ => []
  | k + 1, n => if n < 0 then [] else n :: lineF m k (frmAt m n)
def line (m : Ml) (n : Int) : List Int := lineF m 13 n
theorem frmAt_eq {m : Ml} {n : Int} (h0 : 0 ≤ n) (h1 : n < m.lots.length) : frmAt m n = (m.lots[n.toNat]'(by omega)).frm := by
  unfold frmAt
  rw [List.getElem?_eq_getElem (by omega)]
theorem frmAt_nat {m : Ml} {i : Nat} (hi : i < m.lots.length) : frmAt m (i : Int) = m.lots[i].frm := by
  unfold frmAt
  rw [Int.toNat_natCast, List.getElem?_eq_getElem hi]
theorem frmAt_lt {m : Ml} (g : Good m) {n : Int} (h0 : 0 ≤ n) (h1 : n < m.lots.length) : -1 ≤ frmAt m n ∧ frmAt m n ≤ n - 1 := by
  rw [frmAt_eq h0 h1]
  have := g.frm n.toNat (by omega)
  omega
theorem lineF_any {m : Ml} (g : Good m) : ∀ (k j : Nat) (n : Int), n < k → n < j → 0 < k → 0 < j → n < m.lots.length → lineF m k n = lineF m j n
  | 0, _, _, _, _, h, _, _ => by omega
  | _ + 1, 0, _, _, _, _, h, _ => by omega
  | k + 1, j + 1, n, h1, h2, _, _, hl => by
    simp only [lineF]
    by_cases h0 : n < 0
    · simp [h0]
    · simp only [h0, ↓reduceIte]
      have hf := frmAt_lt g (by omega : 0 ≤ n) hl
      congr 1
      by_cases hk : frmAt m n < 0
      · cases k <;> cases j <;> simp [lineF, hk]
      · exact lineF_any g k j _ (by omega) (by omega) (by omega) (by omega) (by omega)
theorem line_neg (m : Ml) {n : Int} (h : n < 0) : line m n = [] := by simp [line, lineF, h]
theorem line_cons {m : Ml} (g : Good m) {n : Int} (h0 : 0 ≤ n) (h1 : n < m.lots.length) : line m n = n :: line m (frmAt m n) := by
  have hf := frmAt_lt g h0 h1
  have hl := g.lots
  unfold line
  rw [lineF, if_neg (by omega)]
  congr 1
  by_cases hk : frmAt m n < 0
  · simp [lineF, hk]
  · exact lineF_any g 12 13 _ (by omega) (by omega) (by omega) (by omega) (by omega)
theorem own1_lit {h : H} (i : Int) : SlAt (h.add (.cells .rw [.int .i64 i])) (.sl h.next 0 1 (.fix 1)) 1 [encI i] := SlAt.new _ rfl rfl rfl (by simp [encI]) (by simp)
theorem deskLine_ev {h : H} {d : Nat} {m : Ml} (hw : h.wf) (hd : DkAt h d m) (g : Good m) {n : Int} (h0 : -1 ≤ n) (h1 : n < m.lots.length) (Q : V → H → Prop) (q : ∀ v h', OwnSl h h' v 1 ((line m n).map encI) → Q v h') :
    Ev fnG fastA (.fn 119 [] []) [.ptr d 0, .int .i64 n] h Q := by
  obtain ⟨pm, l, L, W, g1, g2, aL, aW, ap⟩ := hd
  have gl := g.lots
  have hld := hw d _ g1
  refine Ev_body (fd := c119) rfl rfl rfl ?_
  simp (maxSteps := 1000000) (implicitDefEqProofs := false) (disch := first | with_reducible rfl | omega | (simp only [nA, nS, nD] <;> omega) | fail) only [c119, go_sem, ↓reduceIte, Nat.reduceEqDiff, Nat.reduceAdd, Nat.reduceSub, Nat.reduceMul, reduceCtorEq, Nat.reduceLeDiff]
  refine W_loop (fun k s => ∃ tm h' x cur pre, s = ⟨tm, h', []⟩ ∧ OwnSl h h' x 1 (pre.map encI) ∧ line m n = pre ++ line m cur ∧ -1 ≤ cur ∧ cur < m.lots.length ∧ (k : Int) = cur + 1 ∧ (pre.length : Int) + cur ≤ 12 ∧
      (Opd.t 0).ev tm = .ptr d 0 ∧ (Opd.t 1).ev tm = .int .i64 cur ∧ (Opd.t 5).ev tm = x)
    ?_ (n + 1).toNat _ ⟨_, _, .nils, n, [], rfl, OwnSl.nil (H.Sub.refl hw) 1, rfl, h0, h1, by omega, by simp; omega, (by simp only [ev_c, ev_put, ↓reduceIte, Nat.reduceEqDiff] <;> rfl), (by simp only [ev_c, ev_put, ↓reduceIte, Nat.reduceEqDiff] <;> rfl), (by simp only [ev_c, ev_put, ↓reduceIte, Nat.reduceEqDiff] <;> rfl)⟩
  rintro k s ⟨tm, h', x, cur, pre, rfl, ox, hl, c0, c1, hk, hp, e0, e1, e5⟩
  have hs := ox.1
  by_cases hc : cur = -1
  · simp (maxSteps := 1000000) (implicitDefEqProofs := false) (disch := first | with_reducible rfl | omega | (simp only [nA, nS, nD] <;> omega) | fail) only [go_sem, ↓reduceIte, Nat.reduceEqDiff, Nat.reduceAdd, Nat.reduceSub, Nat.reduceMul, reduceCtorEq, Nat.reduceLeDiff, e0, e1, e5, hc, ne_eq, not_true_eq_false]
    rw [hc, line_neg m (n := -1) (by omega), List.append_nil] at hl
    exact q _ _ (by rw [hl]; exact ox)
  · have hc0 : 0 ≤ cur := by omega
    obtain ⟨i, rfl⟩ := Int.eq_ofNat_of_zero_le hc0
    have hi : i < m.lots.length := by omega
    obtain ⟨b, o, c, cs, rfl, hcs, hq, hg, hn, hn0⟩ := (aL.mono hs).at hi
    have hpl : (pre.map encI).length ≤ 13 := by simp; omega
    simp (maxSteps := 1000000) (implicitDefEqProofs := false) (disch := first | with_reducible rfl | omega | (simp only [nA, nS, nD] <;> omega) | fail) only [go_sem, ↓reduceIte, Nat.reduceEqDiff, Nat.reduceAdd, Nat.reduceSub, Nat.reduceMul, reduceCtorEq, Nat.reduceLeDiff, e0, e1, e5, hc, ne_eq, not_false_eq_true]
    refine (ox.mono ((H.Sub.refl hs.wf).add _)).app1 (r := encI (i : Int)) hw rfl (by omega) (own1_lit _) rfl (by omega) (by omega) fun h5 o5 k5 n5 => ?_
    have hg1 : h5.cells d = some [.int .i64 m.errs, .sl b o m.lots.length c, W, .map pm] := cells_of (o5.1.get g1)
    obtain ⟨b', o', c', cs', eb, hcs5, hq5, hg5, hn5, hn05⟩ := (aL.mono o5.1).at hi
    cases eb
    simp (maxSteps := 1000000) (implicitDefEqProofs := false) (disch := first | with_reducible rfl | omega | (simp only [nA, nS, nD] <;> omega) | fail) only [go_sem, ↓reduceIte, Nat.reduceEqDiff, Nat.reduceAdd, Nat.reduceSub, Nat.reduceMul, reduceCtorEq, Nat.reduceLeDiff, e0, e1, e5, hg1, hq5 (nat_cst i), hcs5, hn05 (by omega), encL]
    have hf := frmAt_nat hi
    have hlt := frmAt_lt g hc0 c1
    rw [hf] at hlt
    have hln := line_cons g hc0 c1
    rw [hf] at hln
    refine ⟨(m.lots[i].frm + 1).toNat, by omega, _, _, _, m.lots[i].frm, pre ++ [(i : Int)], rfl, ?_, by rw [hl, hln]; simp, by omega, by omega, by omega, by simp; omega, (by simp only [ev_c, ev_put, ↓reduceIte, Nat.reduceEqDiff, e0] <;> rfl), (by simp only [ev_c, ev_put, ↓reduceIte, Nat.reduceEqDiff] <;> rfl), (by simp only [ev_c, ev_put, ↓reduceIte, Nat.reduceEqDiff] <;> rfl)⟩
    rw [List.map_append]; simp only [H.next_add] at o5; exact o5
theorem refLine_ev {h : H} {v : V} {m : Ml} (hw : h.wf) (hm : MlIs h v m) (g : Good m) {n : Int} (h0 : -1 ≤ n) (h1 : n < m.lots.length) (Q : V → H → Prop) (q : ∀ v h', OwnSl h h' v 1 ((line m n).map encI) → Q v h') :
    Ev fnG fastA (.fn 56 [] []) [v, .int .i64 n] h Q := by
  obtain ⟨L, W, rfl, aL, aW⟩ := hm
  have gl := g.lots
  refine Ev_body (fd := c56) rfl rfl rfl ?_
  have s1 : h.Sub (h.add (.cells .rw [.int .i64 m.errs, L, W])) := (H.Sub.refl hw).add _
  simp (maxSteps := 1000000) (implicitDefEqProofs := false) (disch := first | with_reducible rfl | omega | (simp only [nA, nS, nD] <;> omega) | fail) only [c56, go_sem, ↓reduceIte, Nat.reduceEqDiff, Nat.reduceAdd, Nat.reduceSub, Nat.reduceMul, reduceCtorEq, Nat.reduceLeDiff]
  refine W_loop (fun k s => ∃ tm h' x cur pre, s = ⟨tm, h', []⟩ ∧ OwnSl h h' x 1 (pre.map encI) ∧ (h.add (.cells .rw [.int .i64 m.errs, L, W])).Sub h' ∧ line m n = pre ++ line m cur ∧ -1 ≤ cur ∧ cur < m.lots.length ∧ (k : Int) = cur + 1 ∧ (pre.length : Int) + cur ≤ 12 ∧
      (Opd.t 2).ev tm = .ptr h.next 0 ∧ (Opd.t 1).ev tm = .int .i64 cur ∧ (Opd.t 5).ev tm = x)
    ?_ (n + 1).toNat _ ⟨_, _, .nils, n, [], rfl, OwnSl.nil s1 1, H.Sub.refl s1.wf, rfl, h0, h1, by omega, by simp; omega, (by simp only [ev_c, ev_put, ↓reduceIte, Nat.reduceEqDiff] <;> rfl), (by simp only [ev_c, ev_put, ↓reduceIte, Nat.reduceEqDiff] <;> rfl), (by simp only [ev_c, ev_put, ↓reduceIte, Nat.reduceEqDiff] <;> rfl)⟩
  rintro k s ⟨tm, h', x, cur, pre, rfl, ox, hs1, hl, c0, c1, hk, hp, e0, e1, e5⟩
  have hs := ox.1
  by_cases hc : cur = -1
  · have hc' : ¬ 0 ≤ cur := by omega
    simp (maxSteps := 1000000) (implicitDefEqProofs := false) (disch := first | with_reducible rfl | omega | (simp only [nA, nS, nD] <;> omega) | fail) only [go_sem, ↓reduceIte, Nat.reduceEqDiff, Nat.reduceAdd, Nat.reduceSub, Nat.reduceMul, reduceCtorEq, Nat.reduceLeDiff, e0, e1, e5, hc', ne_eq, not_true_eq_false]
    rw [hc, line_neg m (n := -1) (by omega), List.append_nil] at hl
    exact q _ _ (by rw [hl]; exact ox)
  · have hc0 : 0 ≤ cur := by omega
    obtain ⟨i, rfl⟩ := Int.eq_ofNat_of_zero_le hc0
    have hi : i < m.lots.length := by omega
    obtain ⟨b, o, c, cs, rfl, hcs, hq, hg, hn, hn0⟩ := (aL.mono hs).at hi
    have hpl : (pre.map encI).length ≤ 13 := by simp; omega
    have sA := (H.Sub.refl hs.wf).add (.cells .rw [.int .i64 (i : Int)])
    have g1 : h'.get h.next = some (.cells .rw [.int .i64 m.errs, .sl b o m.lots.length c, W]) := hs1.get (get_add_new rfl)
    simp (maxSteps := 1000000) (implicitDefEqProofs := false) (disch := first | with_reducible rfl | omega | (simp only [nA, nS, nD] <;> omega) | fail) only [go_sem, ↓reduceIte, Nat.reduceEqDiff, Nat.reduceAdd, Nat.reduceSub, Nat.reduceMul, reduceCtorEq, Nat.reduceLeDiff, e0, e1, e5, hc0, ne_eq, not_false_eq_true]
    refine (ox.mono sA).app1 (r := encI (i : Int)) hw rfl (by omega) (own1_lit _) rfl (by omega) (by omega) fun h5 o5 k5 n5 => ?_
    have hg0 := k5.2 _ _ (sA.get g1) ((ox.mono sA).ne (sA.get g1))
    have hg1 : h5.cells h.next = some [.int .i64 m.errs, .sl b o m.lots.length c, W] := cells_of hg0
    obtain ⟨b', o', c', cs', eb, hcs5, hq5, hg5, hn5, hn05⟩ := (aL.mono o5.1).at hi
    cases eb
    simp (maxSteps := 1000000) (implicitDefEqProofs := false) (disch := first | with_reducible rfl | omega | (simp only [nA, nS, nD] <;> omega) | fail) only [go_sem, ↓reduceIte, Nat.reduceEqDiff, Nat.reduceAdd, Nat.reduceSub, Nat.reduceMul, reduceCtorEq, Nat.reduceLeDiff, e0, e1, e5, hg1, hq5 (nat_cst i), hcs5, hn05 (by omega), encL]
    have hf := frmAt_nat hi
    have hlt := frmAt_lt g hc0 c1
    rw [hf] at hlt
    have hln := line_cons g hc0 c1
    rw [hf] at hln
    have s15 : (h.add (.cells .rw [.int .i64 m.errs, .sl b o m.lots.length c, W])).Sub h5 := by
      refine ⟨⟨by rw [n5]; have := hs1.next; have := sA.next; omega, fun cc y hy => ?_⟩, o5.1.wf⟩
      refine k5.2 _ _ (sA.get (hs1.get hy)) fun hb => ?_
      rw [H.get_add_if] at hy
      by_cases e : cc = h.next
      · rw [if_pos e] at hy; cases hy
        exact (ox.mono sA).ne (sA.get (hs1.get (by rw [H.get_add_if, if_pos e]))) hb
      · rw [if_neg e] at hy
        have := hw _ _ hy
        exact (ox.mono sA).ne3 this hb
    refine ⟨(m.lots[i].frm + 1).toNat, by omega, _, _, _, m.lots[i].frm, pre ++ [(i : Int)], rfl, ?_, s15, by rw [hl, hln]; simp, by omega, by omega, by omega, by simp; omega, (by simp only [ev_c, ev_put, ↓reduceIte, Nat.reduceEqDiff, e0] <;> rfl), (by simp only [ev_c, ev_put, ↓reduceIte, Nat.reduceEqDiff] <;> rfl), (by simp only [ev_c, ev_put, ↓reduceIte, Nat.reduceEqDiff] <;> rfl)⟩
    rw [List.map_append]; simp only [H.next_add] at o5; exact o5
theorem partsL_low {k : Int} : ∀ {l : List Lt} (i : Nat), (∀ j (hj : j < l.length), l[j].frm ≤ ((i + j : Nat) : Int) - 1) → ((i + l.length : Nat) : Int) ≤ k + 1 → partsL k l i = []
  | [], _, _, _ => rfl
  | a :: l, i, h, hk => by
    have h0 := h 0 (by simp)
    simp only [List.getElem_cons_zero, List.length_cons] at h0 hk
    have : ¬ a.frm = k := by omega
    simp only [partsL, this, ↓reduceIte]
    refine partsL_low (i + 1) (fun j hj => ?_) (by omega)
    have := h (j + 1) (by simpa using hj)
    simp only [List.getElem_cons_succ] at this
    have e : i + 1 + j = i + (j + 1) := by omega
    rw [e]; exact this
theorem refParts_ev {h : H} {v : V} {m : Ml} (hw : h.wf) (hm : MlIs h v m) (g : Good m) {n : Nat} (h1 : n < m.lots.length) (Q : V → H → Prop) (q : ∀ v h', OwnSl h h' v 1 ((parts m n).map encI) → Q v h') :
    Ev fnG fastA (.fn 55 [] []) [v, .int .i64 (n : Int)] h Q := by
  obtain ⟨L, W, rfl, aL, aW⟩ := hm
  have gl := g.lots
  refine Ev_body (fd := c55) rfl rfl rfl ?_
  have s1 : h.Sub (h.add (.cells .rw [.int .i64 m.errs, L, W])) := (H.Sub.refl hw).add _
  simp (maxSteps := 1000000) (implicitDefEqProofs := false) (disch := first | with_reducible rfl | omega | (simp only [nA, nS, nD] <;> omega) | fail) only [c55, go_sem, ↓reduceIte, Nat.reduceEqDiff, Nat.reduceAdd, Nat.reduceSub, Nat.reduceMul, reduceCtorEq, Nat.reduceLeDiff, wr_succ]
  have hlow : partsL (n : Int) (m.lots.take (n + 1)) 0 = [] := by
    refine partsL_low 0 (fun j hj => ?_) (by simp; omega)
    rw [List.getElem_take]
    have := (g.frm j (by simp at hj; omega)).2
    simpa using this
  refine W_count m.lots.length (fun i s => ∃ tm h' x, s = ⟨tm, h', []⟩ ∧ OwnSl h h' x 1 ((partsL (n : Int) (m.lots.take i) 0).map encI) ∧ h'.get h.next = some (.cells .rw [.int .i64 m.errs, L, W]) ∧
      (Opd.t 2).ev tm = .ptr h.next 0 ∧ (Opd.t 1).ev tm = .int .i64 (n : Int) ∧ (Opd.t 5).ev tm = x ∧ (Opd.t 6).ev tm = .int .i64 (i : Int))
    ?_ ?_ (i := n + 1) (by omega) ⟨_, _, .nils, rfl, by rw [hlow]; exact OwnSl.nil s1 1, get_add_new rfl, (by simp only [ev_c, ev_put, ↓reduceIte, Nat.reduceEqDiff] <;> rfl), (by simp only [ev_c, ev_put, ↓reduceIte, Nat.reduceEqDiff] <;> rfl), (by simp only [ev_c, ev_put, ↓reduceIte, Nat.reduceEqDiff] <;> rfl), (by simp only [ev_c, ev_put, ↓reduceIte, Nat.reduceEqDiff] <;> rfl)⟩
  · rintro i s hi ⟨tm, h', x, rfl, ox, g1, e2, e1, e5, e6⟩
    have hi' : (i : Int) < (m.lots.length : Int) := by omega
    have hs := ox.1
    obtain ⟨b, o, c, cs, rfl, hcs, hq, hg, hn, hn0⟩ := (aL.mono hs).at hi
    have hlen := aL.lenE
    have hpl := partsL_len (n : Int) (m.lots.take i) 0
    rw [List.length_take] at hpl
    have hp2 : ((partsL (n : Int) (m.lots.take i) 0).map encI).length ≤ 12 := by simp only [List.length_map]; omega
    have hstep : partsL (n : Int) (m.lots.take (i + 1)) 0 = partsL (n : Int) (m.lots.take i) 0 ++ (if m.lots[i].frm = (n : Int) then [(i : Int)] else []) := by
      rw [List.take_succ_eq_append_getElem hi, partsL_app]
      congr 1
      simp only [partsL, List.length_take, Nat.zero_add]
      rw [Nat.min_eq_left (by omega)]
    by_cases hf : m.lots[i].frm = (n : Int)
    · simp (maxSteps := 1000000) (implicitDefEqProofs := false) (disch := first | with_reducible rfl | omega | (simp only [nA, nS, nD] <;> omega) | fail) only [go_sem, ↓reduceIte, Nat.reduceEqDiff, Nat.reduceAdd, Nat.reduceSub, Nat.reduceMul, reduceCtorEq, Nat.reduceLeDiff, e1, e2, e5, e6, cells_of g1, hlen, hi', hq (nat_cst i), hcs, hn0 (by omega), encL, hf]
      have sA := (H.Sub.refl hs.wf).add (.cells .rw [.int .i64 (i : Int)])
      refine (ox.mono sA).app1 (r := encI (i : Int)) hw rfl (by omega) (own1_lit _) rfl (by omega) (by omega) fun h5 o5 k5 n5 => ?_
      have hg0 := k5.2 _ _ (sA.get g1) ((ox.mono sA).ne (sA.get g1))
      simp (maxSteps := 1000000) (implicitDefEqProofs := false) (disch := first | with_reducible rfl | omega | (simp only [nA, nS, nD] <;> omega) | fail) only [go_sem, ↓reduceIte, Nat.reduceEqDiff, Nat.reduceAdd, Nat.reduceSub, Nat.reduceMul, reduceCtorEq, Nat.reduceLeDiff, e1, e2, e5, e6, wr_succ]
      refine ⟨_, _, _, rfl, ?_, hg0, (by simp only [ev_c, ev_put, ↓reduceIte, Nat.reduceEqDiff, e2] <;> rfl), (by simp only [ev_c, ev_put, ↓reduceIte, Nat.reduceEqDiff, e1] <;> rfl), (by simp only [ev_c, ev_put, ↓reduceIte, Nat.reduceEqDiff] <;> rfl), (by simp only [ev_c, ev_put, ↓reduceIte, Nat.reduceEqDiff] <;> rfl)⟩
      rw [hstep, if_pos hf, List.map_append]
      simp only [H.next_add] at o5; exact o5
    · simp (maxSteps := 1000000) (implicitDefEqProofs := false) (disch := first | with_reducible rfl | omega | (simp only [nA, nS, nD] <;> omega) | fail) only [go_sem, ↓reduceIte, Nat.reduceEqDiff, Nat.reduceAdd, Nat.reduceSub, Nat.reduceMul, reduceCtorEq, Nat.reduceLeDiff, e1, e2, e5, e6, cells_of g1, hlen, hi', hq (nat_cst i), hcs, hn0 (by omega), encL, hf, wr_succ]
      refine ⟨_, _, _, rfl, ?_, g1, (by simp only [ev_c, ev_put, ↓reduceIte, Nat.reduceEqDiff, e2] <;> rfl), (by simp only [ev_c, ev_put, ↓reduceIte, Nat.reduceEqDiff, e1] <;> rfl), (by simp only [ev_c, ev_put, ↓reduceIte, Nat.reduceEqDiff, e5] <;> rfl), (by simp only [ev_c, ev_put, ↓reduceIte, Nat.reduceEqDiff] <;> rfl)⟩
      rw [hstep, if_neg hf, List.append_nil]; exact ox
  · rintro s ⟨tm, h', x, rfl, ox, g1, e2, e1, e5, e6⟩
    rw [List.take_length] at ox
    simp (maxSteps := 1000000) (implicitDefEqProofs := false) (disch := first | with_reducible rfl | omega | (simp only [nA, nS, nD] <;> omega) | fail) only [go_sem, ↓reduceIte, Nat.reduceEqDiff, Nat.reduceAdd, Nat.reduceSub, Nat.reduceMul, reduceCtorEq, Nat.reduceLeDiff, e1, e2, e5, e6, cells_of g1, aL.lenE, Int.lt_irrefl]
    exact q _ _ ox
end Go.Ab.Try
set_option linter.unusedSimpArgs false
set_option linter.unusedVariables false
namespace Go.Ab.Try
theorem sayLo_le {m : Ml} {w : Wg} {k : Int} (hk : 0 ≤ k) (h4 : 0 ≤ w.hi) : sayLo m w ≤ k ↔ 100 * (w.reads - m.errs) ≤ k * (100 + w.hi) := by
  unfold sayLo
  have hD : 0 < 100 + w.hi := by omega
  have hn : 0 ≤ 100 * max 0 (w.reads - m.errs) + (100 + w.hi) - 1 := by omega
  have hkD : 0 ≤ k * (100 + w.hi) := Int.mul_nonneg hk (by omega)
  rw [Int.tdiv_eq_ediv_of_nonneg hn]
  have e : (k + 1) * (100 + w.hi) = k * (100 + w.hi) + (100 + w.hi) := by rw [Int.add_mul, Int.one_mul]
  constructor
  · intro h
    have : (100 * max 0 (w.reads - m.errs) + (100 + w.hi) - 1) / (100 + w.hi) < k + 1 := by omega
    rw [Int.ediv_lt_iff_lt_mul hD, e] at this
    omega
  · intro h
    have : (100 * max 0 (w.reads - m.errs) + (100 + w.hi) - 1) / (100 + w.hi) < k + 1 := by
      rw [Int.ediv_lt_iff_lt_mul hD, e]; omega
    omega
theorem sayLo_nonneg {m : Ml} {w : Wg} (h4 : 0 ≤ w.hi) : 0 ≤ sayLo m w := by
  unfold sayLo
  exact (tdiv_le (by omega) (by omega)).1
end Go.Ab.Try
set_option linter.unusedSimpArgs false
set_option linter.unusedVariables false
namespace Go.Ab.Try
def pw : Nat → Int
  | 0 => 0
  | k + 1 => 2 ^ k
theorem pw_half : ∀ k, (pw (k + 1)).tdiv 2 = pw k
  | 0 => by decide
  | k + 1 => by
    simp only [pw]
    rw [Int.pow_succ, Int.mul_tdiv_cancel _ (by omega)]
theorem two_pow_pos (k : Nat) : (1 : Int) ≤ 2 ^ k := by
  induction k with
  | zero => decide
  | succ k ih => rw [Int.pow_succ]; omega
theorem sayLo_char {m : Ml} {w : Wg} {lo : Int} (h4 : 0 ≤ w.hi) (h0 : 0 ≤ lo) (h1 : lo = 0 ∨ (lo - 1) * (100 + w.hi) < 100 * (w.reads - m.errs)) (h2 : 100 * (w.reads - m.errs) ≤ lo * (100 + w.hi)) : lo = sayLo m w := by
  have a := (sayLo_le h0 h4).2 h2
  have b := sayLo_nonneg (m := m) (w := w) h4
  rcases h1 with h1 | h1
  · omega
  · by_cases c : sayLo m w ≤ lo - 1
    · have := (sayLo_le (m := m) (w := w) (k := lo - 1) (by omega) h4).1 c; omega
    · omega
theorem refSays_ev {h : H} {v : V} {m : Ml} (hw : h.wf) (hm : MlIs h v m) (g : Good m) {n : Nat} (hi : n < m.wgs.length) (Q : V → H → Prop)
    (q : ∀ h', h.Sub h' → Q (.tup [.int .i64 (sayLo m m.wgs[n]), .int .i64 (sayHi m m.wgs[n])]) h') : Ev fnG fastA (.fn 57 [] []) [v, .int .i64 (n : Int)] h Q := by
  obtain ⟨L, W, rfl, aL, aW⟩ := hm
  obtain ⟨b, o, c, cs, rfl, hc, hq, hg, hn, hn0⟩ := aW.at hi
  have hlb : b < h.next := by obtain ⟨k, hk⟩ := H.cells_eq hc; exact hw b _ hk
  have w1 := g.wg _ (List.getElem_mem hi)
  have w2 := g.errs
  obtain ⟨w, ew⟩ : ∃ w, m.wgs[n] = w := ⟨_, rfl⟩
  rw [ew] at hg w1
  rw [ew] at q
  refine Ev_body (fd := c57) rfl rfl rfl ?_
  simp (maxSteps := 1000000) (implicitDefEqProofs := false) (disch := first | with_reducible rfl | omega | (simp only [nA, nS, nD] <;> omega) | fail) only [c57, go_sem, ↓reduceIte, Nat.reduceEqDiff, Nat.reduceAdd, Nat.reduceSub, Nat.reduceMul, reduceCtorEq, Nat.reduceLeDiff, hq (nat_cst n), hc, hg, encW]
  refine W_loop (fun k s => ∃ tm lo, s = ⟨tm, (h.add (.cells .rw [.int .i64 m.errs, L, .sl b o m.wgs.length c])).add (.cells .rw [.int .i64 w.lot, .int .i64 w.reads, .int .i64 w.lo, .int .i64 w.hi]), []⟩ ∧
      0 ≤ lo ∧ lo + 2 ^ k ≤ 16384 ∧ (lo = 0 ∨ (lo - 1) * (100 + w.hi) < 100 * (w.reads - m.errs)) ∧ 100 * (w.reads - m.errs) ≤ (lo + 2 ^ k - 1) * (100 + w.hi) ∧
      (Opd.t 2).ev tm = .ptr h.next 0 ∧ (Opd.t 6).ev tm = .ptr (h.next + 1) 0 ∧ (Opd.t 7).ev tm = .int .i64 lo ∧ (Opd.t 8).ev tm = .int .i64 (pw k))
    ?_ 14 _ ⟨_, 0, rfl, by omega, by decide, .inl rfl, by
      have := Int.mul_le_mul_of_nonneg_left (show (100 : Int) ≤ 100 + w.hi by omega) (show (0 : Int) ≤ 0 + 2 ^ 14 - 1 by decide)
      have e : (0 + 2 ^ 14 - 1 : Int) * 100 = 1638300 := by decide
      omega, (by simp [ev_c, ev_put] <;> rfl), (by simp [ev_c, ev_put] <;> rfl), (by simp [ev_c, ev_put] <;> rfl), (by simp [ev_c, ev_put] <;> rfl)⟩
  rintro k s ⟨tm, lo, rfl, l0, l1, l2, l3, e2, e6, e7, e8⟩
  cases k with
  | zero =>
    have hd := (tdiv_le (a := 100 * (w.reads + m.errs)) (b := 100 + w.lo) (by omega) (by omega))
    have e8' : (Opd.t 8).ev tm = .int .i64 0 := e8
    have hlo : lo = sayLo m w := sayLo_char (by omega) l0 l2 (by simpa using l3)
    by_cases hm : (100 * (w.reads + m.errs)).tdiv (100 + w.lo) < 10000
    · have hh : sayHi m w = (100 * (w.reads + m.errs)).tdiv (100 + w.lo) := by unfold sayHi; omega
      simp (maxSteps := 1000000) (implicitDefEqProofs := false) (disch := first | with_reducible rfl | omega | (simp only [nA, nS, nD] <;> omega) | fail) only [go_sem, ↓reduceIte, Nat.reduceEqDiff, Nat.reduceAdd, Nat.reduceSub, Nat.reduceMul, reduceCtorEq, Nat.reduceLeDiff, e2, e6, e7, e8', Int.lt_irrefl, wr_in, q_ar_quo, hm]
      rw [hlo, ← hh]
      exact q _ (((H.Sub.refl hw).add _).add _)
    · have hh : sayHi m w = 10000 := by unfold sayHi; omega
      simp (maxSteps := 1000000) (implicitDefEqProofs := false) (disch := first | with_reducible rfl | omega | (simp only [nA, nS, nD] <;> omega) | fail) only [go_sem, ↓reduceIte, Nat.reduceEqDiff, Nat.reduceAdd, Nat.reduceSub, Nat.reduceMul, reduceCtorEq, Nat.reduceLeDiff, e2, e6, e7, e8', Int.lt_irrefl, wr_in, q_ar_quo, hm]
      rw [hlo, ← hh]
      exact q _ (((H.Sub.refl hw).add _).add _)
  | succ k =>
    have p1 := two_pow_pos k
    have p2 : (2 : Int) ^ (k + 1) = 2 ^ k * 2 := Int.pow_succ 2 k
    have hpos : 0 < pw (k + 1) := by simp only [pw]; omega
    have epw : pw (k + 1) = 2 ^ k := rfl
    have hhalf := pw_half k
    have hpk : 0 ≤ pw k ∧ pw k ≤ 16384 := by
      cases k with
      | zero => simp [pw]
      | succ j =>
        have := two_pow_pos j
        have e := Int.pow_succ 2 j
        simp only [pw]; omega
    have m1 : 0 ≤ (lo + pw (k + 1) - 1) * (100 + w.hi) ∧ (lo + pw (k + 1) - 1) * (100 + w.hi) ≤ 10000000 := by
      constructor
      · exact Int.mul_nonneg (by omega) (by omega)
      · have a1 := Int.mul_le_mul_of_nonneg_right (show lo + pw (k + 1) - 1 ≤ 16384 by omega) (show 0 ≤ 100 + w.hi by omega)
        omega
    by_cases hlt : (lo + pw (k + 1) - 1) * (100 + w.hi) < 100 * (w.reads - m.errs)
    · simp (maxSteps := 1000000) (implicitDefEqProofs := false) (disch := first | with_reducible rfl | omega | (simp only [nA, nS, nD] <;> omega) | fail) only [go_sem, ↓reduceIte, Nat.reduceEqDiff, Nat.reduceAdd, Nat.reduceSub, Nat.reduceMul, reduceCtorEq, Nat.reduceLeDiff, e2, e6, e7, e8, wr_in, hpos, hlt, q_ar_quo, hhalf]
      refine ⟨k, by omega, _, lo + pw (k + 1), rfl, by omega, by omega, .inr hlt, by rw [epw]; have : lo + 2 ^ k + 2 ^ k - 1 = lo + 2 ^ (k + 1) - 1 := by omega
                                                                                     rw [this]; exact l3, (by simp [ev_c, ev_put, e2] <;> rfl), (by simp [ev_c, ev_put, e6] <;> rfl), (by simp [ev_c, ev_put] <;> rfl), (by simp [ev_c, ev_put] <;> rfl)⟩
    · simp (maxSteps := 1000000) (implicitDefEqProofs := false) (disch := first | with_reducible rfl | omega | (simp only [nA, nS, nD] <;> omega) | fail) only [go_sem, ↓reduceIte, Nat.reduceEqDiff, Nat.reduceAdd, Nat.reduceSub, Nat.reduceMul, reduceCtorEq, Nat.reduceLeDiff, e2, e6, e7, e8, wr_in, hpos, hlt, q_ar_quo, hhalf]
      refine ⟨k, by omega, _, lo, rfl, l0, by omega, l2, by rw [epw] at hlt; omega, (by simp [ev_c, ev_put, e2] <;> rfl), (by simp [ev_c, ev_put, e6] <;> rfl), (by simp [ev_c, ev_put, e7] <;> rfl), (by simp [ev_c, ev_put] <;> rfl)⟩
end Go.Ab.Try
