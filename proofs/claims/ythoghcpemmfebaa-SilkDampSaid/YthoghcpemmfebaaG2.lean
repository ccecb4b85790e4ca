/- SilkDamp is true of the given program at every input, and leaves what is passed in as it was. No condition. awake() is not run again. awake() is true, wherever it is called. Contracts of the generic functions, instance by instance (printed by a program of ours). Mills, and the contract of silk.Check. A mill at work: the contract of silk.opened. What a weighing says; parts and lines. Says, right, and the mill's own copy. The law SilkDamp, on our machine. -/
import Derived.Test.YthoghcpemmfebaaRows
import Derived.ProofKit
import Derived.Test.YthoghcpemmfebaaOk
import Derived.Test.YthoghcpemmfebaaG1
import Derived.Test.YthoghcpemmfebaaAbX
import Derived.Test.YthoghcpemmfebaaAc2
import Derived.Test.YthoghcpemmfebaaAc3
set_option linter.unusedSimpArgs false
namespace Go.Ab.Try
open Go.Proofs
def fastA (f : Nat) : Option (List V → H → Option (V × H)) := match Nat.beq f 17 with
  | true => some fun args h => match args with
    | [] => some (.bool true, h)
    | _ => none
  | false => none
end Go.Ab.Try
namespace Go.Ab.Try
open Go.Proofs
theorem awake_spec (h : H) : SpecOk Try.prog tyG 17 [] h (.bool true) h :=
  closed_spec (awk_ok.is (args := []) (h := ⟨0, .nil⟩) rfl rfl rfl) trivial h
theorem fastA_ok : FastOk Try.prog tyG fastA := by
  refine ⟨fun f g h => ?_⟩
  unfold fastA at h
  split at h
  · rename_i hb
    have := Nat.eq_of_beq_eq_true hb; subst this
    cases h
    refine ⟨callable (fd := c17) rfl, fun args h v h' e => ?_⟩
    dsimp only at e
    split at e
    · cases e; exact awake_spec h
    · cases e
  · cases h
/-- From a contract to the model. -/
theorem spec_of {f : FuncId} {fd : FD} (hf : fnG f = some fd) {args : List V} {h : H} {Q : V → H → Prop} (he : Ev fnG fastA (.fn f [] []) args h Q) : ∃ v h', SpecOk Try.prog tyG f args h v h' ∧ Q v h' :=
  he.spec tyOK depth_ok mixed_ok fnOK fastA_ok (callable hf)
end Go.Ab.Try
set_option linter.unusedSimpArgs false
set_option linter.unusedVariables false
namespace Go.Ab.Try
abbrev E (fv : V) (args : List V) (h : H) (Q : V → H → Prop) : Prop := Ev fnG fastA fv args h Q
abbrev PureA (h : H) (fv : V) (args : List V) (v : V) : Prop := Pure fnG fastA h fv args v
def encI (n : Int) : List V := [.int .i64 n]
def fidx {α : Type} (p : α → Bool) : List α → Nat → Int
  | [], _ => -1
  | r :: l, i => if p r then (i : Int) else fidx p l (i + 1)
theorem fidx_hit {α : Type} {p : α → Bool} {l : List α} {i : Nat} (hi : i < l.length) (h : p l[i] = true) : fidx p (l.drop i) i = (i : Int) := by
  rw [List.drop_eq_getElem_cons hi]; simp [fidx, h]
theorem fidx_miss {α : Type} {p : α → Bool} {l : List α} {i : Nat} (hi : i < l.length) (h : p l[i] = false) : fidx p (l.drop i) i = fidx p (l.drop (i + 1)) (i + 1) := by
  rw [List.drop_eq_getElem_cons hi]; simp [fidx, h]
theorem fidx_any {α : Type} (p : α → Bool) : ∀ (l : List α) (i : Nat), decide (0 ≤ fidx p l i) = l.any p
  | [], i => by simp [fidx]
  | r :: l, i => by
    have ih := fidx_any p l (i + 1)
    simp only [fidx, List.any_cons]
    by_cases h : p r = true
    · simp [h]
    · simpa [h] using ih
theorem any_not {α : Type} (p : α → Bool) (l : List α) : (!l.any fun a => !p a) = l.all p := by
  induction l with
  | nil => rfl
  | cons a l ih => simp only [List.any_cons, List.all_cons, ← ih, Bool.not_or, Bool.not_not]

/-! ### Wg -/
theorem indexFuncWg_ev {α : Type} {enc : α → List V} {l : List α} {p : α → Bool} {h : H} {x f : V} (hw : h.wf) (hx : SlAt h x 4 (l.map enc)) (hp : ∀ a ∈ l, PureA h f [.agg (enc a)] (.bool (p a))) :
    E (.fn 153 [] []) [x, f] h fun v h' => v = .int .i64 (fidx p l 0) ∧ h.Sub h' := by
  have hb := hx.boundE
  refine Ev_body (fd := c153) rfl rfl rfl ?_
  simp (maxSteps := 1000000) (implicitDefEqProofs := false) (disch := (first | with_reducible rfl | omega | (simp only [H.next_add, H.next_set, H.next_del]; done) | (simp only [H.next_add, H.next_set, H.next_del]; omega) | fail)) only [c153, go_sem, ↓reduceIte, Nat.reduceEqDiff, Nat.reduceAdd, Nat.reduceSub, Nat.reduceMul, reduceCtorEq, Nat.reduceLeDiff, hx.lenE]
  refine W_count l.length (fun i s => ∃ tm h', s = ⟨tm, h', []⟩ ∧ h.Sub h' ∧ (Opd.t 0).ev tm = x ∧ (Opd.t 1).ev tm = f ∧ (Opd.t 7).ev tm = .int .i64 (l.length : Int) ∧ (Opd.t 8).ev tm = .int .i64 (i : Int) ∧ fidx p l 0 = fidx p (l.drop i) i)
    ?_ ?_ (i := 0) (Nat.zero_le _) ⟨_, _, rfl, H.Sub.refl hw, (by simp only [ev_c, ev_put, ↓reduceIte, Nat.reduceEqDiff] <;> rfl), (by simp only [ev_c, ev_put, ↓reduceIte, Nat.reduceEqDiff] <;> rfl), (by simp only [ev_c, ev_put, ↓reduceIte, Nat.reduceEqDiff] <;> rfl), (by simp only [ev_put]; rfl), rfl⟩
  · rintro i s hi ⟨tm, h', rfl, hs, e0, e1, e7, e8, e9⟩
    have hi' : (i : Int) < (l.length : Int) := by omega
    obtain ⟨b, o, c, cs, rfl, hc, hq, hg, hn, hn0⟩ := (hx.mono hs).at hi
    simp (maxSteps := 1000000) (implicitDefEqProofs := false) (disch := (first | with_reducible rfl | omega | (simp only [H.next_add, H.next_set, H.next_del]; done) | (simp only [H.next_add, H.next_set, H.next_del]; omega) | fail)) only [go_sem, ↓reduceIte, Nat.reduceEqDiff, Nat.reduceAdd, Nat.reduceSub, Nat.reduceMul, reduceCtorEq, Nat.reduceLeDiff, e0, e1, e7, e8, hi', hq (nat_cst i), hc, hg]
    refine (hp _ (List.getElem_mem hi)).use hs fun h2 hs2 => ?_
    cases hpr : p l[i] with
    | true =>
      simp (maxSteps := 1000000) (implicitDefEqProofs := false) (disch := (first | with_reducible rfl | omega | (simp only [H.next_add, H.next_set, H.next_del]; done) | (simp only [H.next_add, H.next_set, H.next_del]; omega) | fail)) only [go_sem, ↓reduceIte, Nat.reduceEqDiff, Nat.reduceAdd, Nat.reduceSub, Nat.reduceMul, reduceCtorEq, Nat.reduceLeDiff, e0, e1, e7, e8]
      exact ⟨by rw [e9, fidx_hit hi hpr], hs.trans hs2⟩
    | false =>
      simp (maxSteps := 1000000) (implicitDefEqProofs := false) (disch := (first | with_reducible rfl | omega | (simp only [H.next_add, H.next_set, H.next_del]; done) | (simp only [H.next_add, H.next_set, H.next_del]; omega) | fail)) only [go_sem, ↓reduceIte, Nat.reduceEqDiff, Nat.reduceAdd, Nat.reduceSub, Nat.reduceMul, reduceCtorEq, Nat.reduceLeDiff, e0, e1, e7, e8, wr_succ]
      exact ⟨_, _, rfl, hs.trans hs2, (by simp only [ev_c, ev_put, ↓reduceIte, Nat.reduceEqDiff, e0] <;> rfl), (by simp only [ev_c, ev_put, ↓reduceIte, Nat.reduceEqDiff, e1] <;> rfl), (by simp only [ev_c, ev_put, ↓reduceIte, Nat.reduceEqDiff, e7] <;> rfl), (by simp only [ev_c, ev_put, ↓reduceIte, Nat.reduceEqDiff] <;> rfl), by rw [e9, fidx_miss hi hpr]⟩
  · rintro s ⟨tm, h', rfl, hs, e0, e1, e7, e8, e9⟩
    simp (maxSteps := 1000000) (implicitDefEqProofs := false) (disch := (first | with_reducible rfl | omega | (simp only [H.next_add, H.next_set, H.next_del]; done) | (simp only [H.next_add, H.next_set, H.next_del]; omega) | fail)) only [go_sem, ↓reduceIte, Nat.reduceEqDiff, Nat.reduceAdd, Nat.reduceSub, Nat.reduceMul, reduceCtorEq, Nat.reduceLeDiff, e0, e1, e7, e8, Int.lt_irrefl]
    exact ⟨by rw [e9]; simp [fidx], hs⟩
theorem containsFuncWg_ev {α : Type} {enc : α → List V} {l : List α} {p : α → Bool} {h : H} {x f : V} (hw : h.wf) (hx : SlAt h x 4 (l.map enc)) (hp : ∀ a ∈ l, PureA h f [.agg (enc a)] (.bool (p a))) :
    E (.fn 127 [] []) [x, f] h fun v h' => v = .bool (l.any p) ∧ h.Sub h' := by
  refine Ev_body (fd := c127) rfl rfl rfl ?_
  simp (maxSteps := 1000000) (implicitDefEqProofs := false) (disch := (first | with_reducible rfl | omega | (simp only [H.next_add, H.next_set, H.next_del]; done) | (simp only [H.next_add, H.next_set, H.next_del]; omega) | fail)) only [c127, go_sem, ↓reduceIte, Nat.reduceEqDiff, Nat.reduceAdd, Nat.reduceSub, Nat.reduceMul, reduceCtorEq, Nat.reduceLeDiff]
  refine (indexFuncWg_ev hw hx hp).mono fun v h' hv => ?_
  obtain ⟨rfl, hs⟩ := hv
  simp (maxSteps := 1000000) (implicitDefEqProofs := false) (disch := (first | with_reducible rfl | omega | (simp only [H.next_add, H.next_set, H.next_del]; done) | (simp only [H.next_add, H.next_set, H.next_del]; omega) | fail)) only [go_sem, ↓reduceIte, Nat.reduceEqDiff, Nat.reduceAdd, Nat.reduceSub, Nat.reduceMul, reduceCtorEq, Nat.reduceLeDiff]
  exact ⟨by rw [fidx_any], hs⟩
theorem everyWg_ev {α : Type} {enc : α → List V} {l : List α} {p : α → Bool} {h : H} {x : V} {g : FuncId} {u w : List V} (hw : h.wf) (hx : SlAt h x 4 (l.map enc)) (hp : ∀ a ∈ l, PureA h (.fn g u w) [.agg (enc a)] (.bool (p a))) :
    E (.fn 113 [] []) [x, .fn g u w] h fun v h' => v = .bool (l.all p) ∧ h.Sub h' := by
  refine Ev_body (fd := c113) rfl rfl rfl ?_
  simp (maxSteps := 1000000) (implicitDefEqProofs := false) (disch := (first | with_reducible rfl | omega | (simp only [H.next_add, H.next_set, H.next_del]; done) | (simp only [H.next_add, H.next_set, H.next_del]; omega) | fail)) only [c113, go_sem, ↓reduceIte, Nat.reduceEqDiff, Nat.reduceAdd, Nat.reduceSub, Nat.reduceMul, reduceCtorEq, Nat.reduceLeDiff]
  have hs1 : h.Sub (h.add (.cells .rw [.fn g u w])) := (H.Sub.refl hw).add _
  refine (containsFuncWg_ev (p := fun a => !p a) hs1.wf (hx.mono hs1) fun a ha h2 hs2 => ?_).mono fun v h' hv => ?_
  · have hc : h2.cells h.next = some [.fn g u w] := hs2.cells (cells_add_new rfl)
    have hl : h.next < h2.next := by have := hs2.next; rw [H.next_add] at this; omega
    refine Ev_body (fd := c148) rfl rfl rfl ?_
    simp (maxSteps := 1000000) (implicitDefEqProofs := false) (disch := (first | with_reducible rfl | omega | (simp only [H.next_add, H.next_set, H.next_del]; done) | (simp only [H.next_add, H.next_set, H.next_del]; omega) | fail)) only [c148, go_sem, ↓reduceIte, Nat.reduceEqDiff, Nat.reduceAdd, Nat.reduceSub, Nat.reduceMul, reduceCtorEq, Nat.reduceLeDiff, hc, getN_full (hx.1 _ (List.mem_map_of_mem ha))]
    refine ((hp a ha).mono hs1).use (hs2.add _) fun h3 hs3 => ?_
    simp (maxSteps := 1000000) (implicitDefEqProofs := false) (disch := (first | with_reducible rfl | omega | (simp only [H.next_add, H.next_set, H.next_del]; done) | (simp only [H.next_add, H.next_set, H.next_del]; omega) | fail)) only [go_sem, ↓reduceIte, Nat.reduceEqDiff, Nat.reduceAdd, Nat.reduceSub, Nat.reduceMul, reduceCtorEq, Nat.reduceLeDiff]
    exact (H.Sub.refl hs2.wf).add _ |>.trans hs3
  · obtain ⟨rfl, hs⟩ := hv
    simp (maxSteps := 1000000) (implicitDefEqProofs := false) (disch := (first | with_reducible rfl | omega | (simp only [H.next_add, H.next_set, H.next_del]; done) | (simp only [H.next_add, H.next_set, H.next_del]; omega) | fail)) only [go_sem, ↓reduceIte, Nat.reduceEqDiff, Nat.reduceAdd, Nat.reduceSub, Nat.reduceMul, reduceCtorEq, Nat.reduceLeDiff]
    exact ⟨by rw [any_not], hs1.trans hs⟩

/-! ### Lot -/
theorem indexFuncLot_ev {α : Type} {enc : α → List V} {l : List α} {p : α → Bool} {h : H} {x f : V} (hw : h.wf) (hx : SlAt h x 2 (l.map enc)) (hp : ∀ a ∈ l, PureA h f [.agg (enc a)] (.bool (p a))) :
    E (.fn 142 [] []) [x, f] h fun v h' => v = .int .i64 (fidx p l 0) ∧ h.Sub h' := by
  have hb := hx.boundE
  refine Ev_body (fd := c142) rfl rfl rfl ?_
  simp (maxSteps := 1000000) (implicitDefEqProofs := false) (disch := (first | with_reducible rfl | omega | (simp only [H.next_add, H.next_set, H.next_del]; done) | (simp only [H.next_add, H.next_set, H.next_del]; omega) | fail)) only [c142, go_sem, ↓reduceIte, Nat.reduceEqDiff, Nat.reduceAdd, Nat.reduceSub, Nat.reduceMul, reduceCtorEq, Nat.reduceLeDiff, hx.lenE]
  refine W_count l.length (fun i s => ∃ tm h', s = ⟨tm, h', []⟩ ∧ h.Sub h' ∧ (Opd.t 0).ev tm = x ∧ (Opd.t 1).ev tm = f ∧ (Opd.t 7).ev tm = .int .i64 (l.length : Int) ∧ (Opd.t 8).ev tm = .int .i64 (i : Int) ∧ fidx p l 0 = fidx p (l.drop i) i)
    ?_ ?_ (i := 0) (Nat.zero_le _) ⟨_, _, rfl, H.Sub.refl hw, (by simp only [ev_c, ev_put, ↓reduceIte, Nat.reduceEqDiff] <;> rfl), (by simp only [ev_c, ev_put, ↓reduceIte, Nat.reduceEqDiff] <;> rfl), (by simp only [ev_c, ev_put, ↓reduceIte, Nat.reduceEqDiff] <;> rfl), (by simp only [ev_put]; rfl), rfl⟩
  · rintro i s hi ⟨tm, h', rfl, hs, e0, e1, e7, e8, e9⟩
    have hi' : (i : Int) < (l.length : Int) := by omega
    obtain ⟨b, o, c, cs, rfl, hc, hq, hg, hn, hn0⟩ := (hx.mono hs).at hi
    simp (maxSteps := 1000000) (implicitDefEqProofs := false) (disch := (first | with_reducible rfl | omega | (simp only [H.next_add, H.next_set, H.next_del]; done) | (simp only [H.next_add, H.next_set, H.next_del]; omega) | fail)) only [go_sem, ↓reduceIte, Nat.reduceEqDiff, Nat.reduceAdd, Nat.reduceSub, Nat.reduceMul, reduceCtorEq, Nat.reduceLeDiff, e0, e1, e7, e8, hi', hq (nat_cst i), hc, hg]
    refine (hp _ (List.getElem_mem hi)).use hs fun h2 hs2 => ?_
    cases hpr : p l[i] with
    | true =>
      simp (maxSteps := 1000000) (implicitDefEqProofs := false) (disch := (first | with_reducible rfl | omega | (simp only [H.next_add, H.next_set, H.next_del]; done) | (simp only [H.next_add, H.next_set, H.next_del]; omega) | fail)) only [go_sem, ↓reduceIte, Nat.reduceEqDiff, Nat.reduceAdd, Nat.reduceSub, Nat.reduceMul, reduceCtorEq, Nat.reduceLeDiff, e0, e1, e7, e8]
      exact ⟨by rw [e9, fidx_hit hi hpr], hs.trans hs2⟩
    | false =>
      simp (maxSteps := 1000000) (implicitDefEqProofs := false) (disch := (first | with_reducible rfl | omega | (simp only [H.next_add, H.next_set, H.next_del]; done) | (simp only [H.next_add, H.next_set, H.next_del]; omega) | fail)) only [go_sem, ↓reduceIte, Nat.reduceEqDiff, Nat.reduceAdd, Nat.reduceSub, Nat.reduceMul, reduceCtorEq, Nat.reduceLeDiff, e0, e1, e7, e8, wr_succ]
      exact ⟨_, _, rfl, hs.trans hs2, (by simp only [ev_c, ev_put, ↓reduceIte, Nat.reduceEqDiff, e0] <;> rfl), (by simp only [ev_c, ev_put, ↓reduceIte, Nat.reduceEqDiff, e1] <;> rfl), (by simp only [ev_c, ev_put, ↓reduceIte, Nat.reduceEqDiff, e7] <;> rfl), (by simp only [ev_c, ev_put, ↓reduceIte, Nat.reduceEqDiff] <;> rfl), by rw [e9, fidx_miss hi hpr]⟩
  · rintro s ⟨tm, h', rfl, hs, e0, e1, e7, e8, e9⟩
    simp (maxSteps := 1000000) (implicitDefEqProofs := false) (disch := (first | with_reducible rfl | omega | (simp only [H.next_add, H.next_set, H.next_del]; done) | (simp only [H.next_add, H.next_set, H.next_del]; omega) | fail)) only [go_sem, ↓reduceIte, Nat.reduceEqDiff, Nat.reduceAdd, Nat.reduceSub, Nat.reduceMul, reduceCtorEq, Nat.reduceLeDiff, e0, e1, e7, e8, Int.lt_irrefl]
    exact ⟨by rw [e9]; simp [fidx], hs⟩
theorem containsFuncLot_ev {α : Type} {enc : α → List V} {l : List α} {p : α → Bool} {h : H} {x f : V} (hw : h.wf) (hx : SlAt h x 2 (l.map enc)) (hp : ∀ a ∈ l, PureA h f [.agg (enc a)] (.bool (p a))) :
    E (.fn 99 [] []) [x, f] h fun v h' => v = .bool (l.any p) ∧ h.Sub h' := by
  refine Ev_body (fd := c99) rfl rfl rfl ?_
  simp (maxSteps := 1000000) (implicitDefEqProofs := false) (disch := (first | with_reducible rfl | omega | (simp only [H.next_add, H.next_set, H.next_del]; done) | (simp only [H.next_add, H.next_set, H.next_del]; omega) | fail)) only [c99, go_sem, ↓reduceIte, Nat.reduceEqDiff, Nat.reduceAdd, Nat.reduceSub, Nat.reduceMul, reduceCtorEq, Nat.reduceLeDiff]
  refine (indexFuncLot_ev hw hx hp).mono fun v h' hv => ?_
  obtain ⟨rfl, hs⟩ := hv
  simp (maxSteps := 1000000) (implicitDefEqProofs := false) (disch := (first | with_reducible rfl | omega | (simp only [H.next_add, H.next_set, H.next_del]; done) | (simp only [H.next_add, H.next_set, H.next_del]; omega) | fail)) only [go_sem, ↓reduceIte, Nat.reduceEqDiff, Nat.reduceAdd, Nat.reduceSub, Nat.reduceMul, reduceCtorEq, Nat.reduceLeDiff]
  exact ⟨by rw [fidx_any], hs⟩
theorem everyLot_ev {α : Type} {enc : α → List V} {l : List α} {p : α → Bool} {h : H} {x : V} {g : FuncId} {u w : List V} (hw : h.wf) (hx : SlAt h x 2 (l.map enc)) (hp : ∀ a ∈ l, PureA h (.fn g u w) [.agg (enc a)] (.bool (p a))) :
    E (.fn 115 [] []) [x, .fn g u w] h fun v h' => v = .bool (l.all p) ∧ h.Sub h' := by
  refine Ev_body (fd := c115) rfl rfl rfl ?_
  simp (maxSteps := 1000000) (implicitDefEqProofs := false) (disch := (first | with_reducible rfl | omega | (simp only [H.next_add, H.next_set, H.next_del]; done) | (simp only [H.next_add, H.next_set, H.next_del]; omega) | fail)) only [c115, go_sem, ↓reduceIte, Nat.reduceEqDiff, Nat.reduceAdd, Nat.reduceSub, Nat.reduceMul, reduceCtorEq, Nat.reduceLeDiff]
  have hs1 : h.Sub (h.add (.cells .rw [.fn g u w])) := (H.Sub.refl hw).add _
  refine (containsFuncLot_ev (p := fun a => !p a) hs1.wf (hx.mono hs1) fun a ha h2 hs2 => ?_).mono fun v h' hv => ?_
  · have hc : h2.cells h.next = some [.fn g u w] := hs2.cells (cells_add_new rfl)
    have hl : h.next < h2.next := by have := hs2.next; rw [H.next_add] at this; omega
    refine Ev_body (fd := c149) rfl rfl rfl ?_
    simp (maxSteps := 1000000) (implicitDefEqProofs := false) (disch := (first | with_reducible rfl | omega | (simp only [H.next_add, H.next_set, H.next_del]; done) | (simp only [H.next_add, H.next_set, H.next_del]; omega) | fail)) only [c149, go_sem, ↓reduceIte, Nat.reduceEqDiff, Nat.reduceAdd, Nat.reduceSub, Nat.reduceMul, reduceCtorEq, Nat.reduceLeDiff, hc, getN_full (hx.1 _ (List.mem_map_of_mem ha))]
    refine ((hp a ha).mono hs1).use (hs2.add _) fun h3 hs3 => ?_
    simp (maxSteps := 1000000) (implicitDefEqProofs := false) (disch := (first | with_reducible rfl | omega | (simp only [H.next_add, H.next_set, H.next_del]; done) | (simp only [H.next_add, H.next_set, H.next_del]; omega) | fail)) only [go_sem, ↓reduceIte, Nat.reduceEqDiff, Nat.reduceAdd, Nat.reduceSub, Nat.reduceMul, reduceCtorEq, Nat.reduceLeDiff]
    exact (H.Sub.refl hs2.wf).add _ |>.trans hs3
  · obtain ⟨rfl, hs⟩ := hv
    simp (maxSteps := 1000000) (implicitDefEqProofs := false) (disch := (first | with_reducible rfl | omega | (simp only [H.next_add, H.next_set, H.next_del]; done) | (simp only [H.next_add, H.next_set, H.next_del]; omega) | fail)) only [go_sem, ↓reduceIte, Nat.reduceEqDiff, Nat.reduceAdd, Nat.reduceSub, Nat.reduceMul, reduceCtorEq, Nat.reduceLeDiff]
    exact ⟨by rw [any_not], hs1.trans hs⟩

/-! ### Kind -/
theorem indexFuncKind_ev {l : List Int} {p : Int → Bool} {h : H} {x f : V} (hw : h.wf) (hx : SlAt h x 1 (l.map encI)) (hp : ∀ a ∈ l, PureA h f [.int .i64 a] (.bool (p a))) :
    E (.fn 158 [] []) [x, f] h fun v h' => v = .int .i64 (fidx p l 0) ∧ h.Sub h' := by
  have hb := hx.boundE
  refine Ev_body (fd := c158) rfl rfl rfl ?_
  simp (maxSteps := 1000000) (implicitDefEqProofs := false) (disch := (first | with_reducible rfl | omega | (simp only [H.next_add, H.next_set, H.next_del]; done) | (simp only [H.next_add, H.next_set, H.next_del]; omega) | fail)) only [c158, go_sem, ↓reduceIte, Nat.reduceEqDiff, Nat.reduceAdd, Nat.reduceSub, Nat.reduceMul, reduceCtorEq, Nat.reduceLeDiff, hx.lenE]
  refine W_count l.length (fun i s => ∃ tm h', s = ⟨tm, h', []⟩ ∧ h.Sub h' ∧ (Opd.t 0).ev tm = x ∧ (Opd.t 1).ev tm = f ∧ (Opd.t 7).ev tm = .int .i64 (l.length : Int) ∧ (Opd.t 8).ev tm = .int .i64 (i : Int) ∧ fidx p l 0 = fidx p (l.drop i) i)
    ?_ ?_ (i := 0) (Nat.zero_le _) ⟨_, _, rfl, H.Sub.refl hw, (by simp only [ev_c, ev_put, ↓reduceIte, Nat.reduceEqDiff] <;> rfl), (by simp only [ev_c, ev_put, ↓reduceIte, Nat.reduceEqDiff] <;> rfl), (by simp only [ev_c, ev_put, ↓reduceIte, Nat.reduceEqDiff] <;> rfl), (by simp only [ev_put]; rfl), rfl⟩
  · rintro i s hi ⟨tm, h', rfl, hs, e0, e1, e7, e8, e9⟩
    have hi' : (i : Int) < (l.length : Int) := by omega
    obtain ⟨b, o, c, cs, rfl, hc, hq, hg, hn, hn0⟩ := (hx.mono hs).at hi
    simp (maxSteps := 1000000) (implicitDefEqProofs := false) (disch := (first | with_reducible rfl | omega | (simp only [H.next_add, H.next_set, H.next_del]; done) | (simp only [H.next_add, H.next_set, H.next_del]; omega) | fail)) only [go_sem, ↓reduceIte, Nat.reduceEqDiff, Nat.reduceAdd, Nat.reduceSub, Nat.reduceMul, reduceCtorEq, Nat.reduceLeDiff, e0, e1, e7, e8, hi', hq (nat_cst i), hc, hn0 (by omega), encI]
    refine (hp _ (List.getElem_mem hi)).use hs fun h2 hs2 => ?_
    cases hpr : p l[i] with
    | true =>
      simp (maxSteps := 1000000) (implicitDefEqProofs := false) (disch := (first | with_reducible rfl | omega | (simp only [H.next_add, H.next_set, H.next_del]; done) | (simp only [H.next_add, H.next_set, H.next_del]; omega) | fail)) only [go_sem, ↓reduceIte, Nat.reduceEqDiff, Nat.reduceAdd, Nat.reduceSub, Nat.reduceMul, reduceCtorEq, Nat.reduceLeDiff, e0, e1, e7, e8]
      exact ⟨by rw [e9, fidx_hit hi hpr], hs.trans hs2⟩
    | false =>
      simp (maxSteps := 1000000) (implicitDefEqProofs := false) (disch := (first | with_reducible rfl | omega | (simp only [H.next_add, H.next_set, H.next_del]; done) | (simp only [H.next_add, H.next_set, H.next_del]; omega) | fail)) only [go_sem, ↓reduceIte, Nat.reduceEqDiff, Nat.reduceAdd, Nat.reduceSub, Nat.reduceMul, reduceCtorEq, Nat.reduceLeDiff, e0, e1, e7, e8, wr_succ]
      exact ⟨_, _, rfl, hs.trans hs2, (by simp only [ev_c, ev_put, ↓reduceIte, Nat.reduceEqDiff, e0] <;> rfl), (by simp only [ev_c, ev_put, ↓reduceIte, Nat.reduceEqDiff, e1] <;> rfl), (by simp only [ev_c, ev_put, ↓reduceIte, Nat.reduceEqDiff, e7] <;> rfl), (by simp only [ev_c, ev_put, ↓reduceIte, Nat.reduceEqDiff] <;> rfl), by rw [e9, fidx_miss hi hpr]⟩
  · rintro s ⟨tm, h', rfl, hs, e0, e1, e7, e8, e9⟩
    simp (maxSteps := 1000000) (implicitDefEqProofs := false) (disch := (first | with_reducible rfl | omega | (simp only [H.next_add, H.next_set, H.next_del]; done) | (simp only [H.next_add, H.next_set, H.next_del]; omega) | fail)) only [go_sem, ↓reduceIte, Nat.reduceEqDiff, Nat.reduceAdd, Nat.reduceSub, Nat.reduceMul, reduceCtorEq, Nat.reduceLeDiff, e0, e1, e7, e8, Int.lt_irrefl]
    exact ⟨by rw [e9]; simp [fidx], hs⟩
theorem containsFuncKind_ev {l : List Int} {p : Int → Bool} {h : H} {x f : V} (hw : h.wf) (hx : SlAt h x 1 (l.map encI)) (hp : ∀ a ∈ l, PureA h f [.int .i64 a] (.bool (p a))) :
    E (.fn 146 [] []) [x, f] h fun v h' => v = .bool (l.any p) ∧ h.Sub h' := by
  refine Ev_body (fd := c146) rfl rfl rfl ?_
  simp (maxSteps := 1000000) (implicitDefEqProofs := false) (disch := (first | with_reducible rfl | omega | (simp only [H.next_add, H.next_set, H.next_del]; done) | (simp only [H.next_add, H.next_set, H.next_del]; omega) | fail)) only [c146, go_sem, ↓reduceIte, Nat.reduceEqDiff, Nat.reduceAdd, Nat.reduceSub, Nat.reduceMul, reduceCtorEq, Nat.reduceLeDiff]
  refine (indexFuncKind_ev hw hx hp).mono fun v h' hv => ?_
  obtain ⟨rfl, hs⟩ := hv
  simp (maxSteps := 1000000) (implicitDefEqProofs := false) (disch := (first | with_reducible rfl | omega | (simp only [H.next_add, H.next_set, H.next_del]; done) | (simp only [H.next_add, H.next_set, H.next_del]; omega) | fail)) only [go_sem, ↓reduceIte, Nat.reduceEqDiff, Nat.reduceAdd, Nat.reduceSub, Nat.reduceMul, reduceCtorEq, Nat.reduceLeDiff]
  exact ⟨by rw [fidx_any], hs⟩
theorem everyKind_ev {l : List Int} {p : Int → Bool} {h : H} {x : V} {g : FuncId} {u w : List V} (hw : h.wf) (hx : SlAt h x 1 (l.map encI)) (hp : ∀ a ∈ l, PureA h (.fn g u w) [.int .i64 a] (.bool (p a))) :
    E (.fn 111 [] []) [x, .fn g u w] h fun v h' => v = .bool (l.all p) ∧ h.Sub h' := by
  refine Ev_body (fd := c111) rfl rfl rfl ?_
  simp (maxSteps := 1000000) (implicitDefEqProofs := false) (disch := (first | with_reducible rfl | omega | (simp only [H.next_add, H.next_set, H.next_del]; done) | (simp only [H.next_add, H.next_set, H.next_del]; omega) | fail)) only [c111, go_sem, ↓reduceIte, Nat.reduceEqDiff, Nat.reduceAdd, Nat.reduceSub, Nat.reduceMul, reduceCtorEq, Nat.reduceLeDiff]
  have hs1 : h.Sub (h.add (.cells .rw [.fn g u w])) := (H.Sub.refl hw).add _
  refine (containsFuncKind_ev (p := fun a => !p a) hs1.wf (hx.mono hs1) fun a ha h2 hs2 => ?_).mono fun v h' hv => ?_
  · have hc : h2.cells h.next = some [.fn g u w] := hs2.cells (cells_add_new rfl)
    have hl : h.next < h2.next := by have := hs2.next; rw [H.next_add] at this; omega
    refine Ev_body (fd := c147) rfl rfl rfl ?_
    simp (maxSteps := 1000000) (implicitDefEqProofs := false) (disch := (first | with_reducible rfl | omega | (simp only [H.next_add, H.next_set, H.next_del]; done) | (simp only [H.next_add, H.next_set, H.next_del]; omega) | fail)) only [c147, go_sem, ↓reduceIte, Nat.reduceEqDiff, Nat.reduceAdd, Nat.reduceSub, Nat.reduceMul, reduceCtorEq, Nat.reduceLeDiff, hc]
    refine ((hp a ha).mono hs1).use hs2 fun h3 hs3 => ?_
    simp (maxSteps := 1000000) (implicitDefEqProofs := false) (disch := (first | with_reducible rfl | omega | (simp only [H.next_add, H.next_set, H.next_del]; done) | (simp only [H.next_add, H.next_set, H.next_del]; omega) | fail)) only [go_sem, ↓reduceIte, Nat.reduceEqDiff, Nat.reduceAdd, Nat.reduceSub, Nat.reduceMul, reduceCtorEq, Nat.reduceLeDiff]
    exact hs3
  · obtain ⟨rfl, hs⟩ := hv
    simp (maxSteps := 1000000) (implicitDefEqProofs := false) (disch := (first | with_reducible rfl | omega | (simp only [H.next_add, H.next_set, H.next_del]; done) | (simp only [H.next_add, H.next_set, H.next_del]; omega) | fail)) only [go_sem, ↓reduceIte, Nat.reduceEqDiff, Nat.reduceAdd, Nat.reduceSub, Nat.reduceMul, reduceCtorEq, Nat.reduceLeDiff]
    exact ⟨by rw [any_not], hs1.trans hs⟩

/-! ### Int -/
theorem indexFuncInt_ev {l : List Int} {p : Int → Bool} {h : H} {x f : V} (hw : h.wf) (hx : SlAt h x 1 (l.map encI)) (hp : ∀ a ∈ l, PureA h f [.int .i64 a] (.bool (p a))) :
    E (.fn 122 [] []) [x, f] h fun v h' => v = .int .i64 (fidx p l 0) ∧ h.Sub h' := by
  have hb := hx.boundE
  refine Ev_body (fd := c122) rfl rfl rfl ?_
  simp (maxSteps := 1000000) (implicitDefEqProofs := false) (disch := (first | with_reducible rfl | omega | (simp only [H.next_add, H.next_set, H.next_del]; done) | (simp only [H.next_add, H.next_set, H.next_del]; omega) | fail)) only [c122, go_sem, ↓reduceIte, Nat.reduceEqDiff, Nat.reduceAdd, Nat.reduceSub, Nat.reduceMul, reduceCtorEq, Nat.reduceLeDiff, hx.lenE]
  refine W_count l.length (fun i s => ∃ tm h', s = ⟨tm, h', []⟩ ∧ h.Sub h' ∧ (Opd.t 0).ev tm = x ∧ (Opd.t 1).ev tm = f ∧ (Opd.t 7).ev tm = .int .i64 (l.length : Int) ∧ (Opd.t 8).ev tm = .int .i64 (i : Int) ∧ fidx p l 0 = fidx p (l.drop i) i)
    ?_ ?_ (i := 0) (Nat.zero_le _) ⟨_, _, rfl, H.Sub.refl hw, (by simp only [ev_c, ev_put, ↓reduceIte, Nat.reduceEqDiff] <;> rfl), (by simp only [ev_c, ev_put, ↓reduceIte, Nat.reduceEqDiff] <;> rfl), (by simp only [ev_c, ev_put, ↓reduceIte, Nat.reduceEqDiff] <;> rfl), (by simp only [ev_put]; rfl), rfl⟩
  · rintro i s hi ⟨tm, h', rfl, hs, e0, e1, e7, e8, e9⟩
    have hi' : (i : Int) < (l.length : Int) := by omega
    obtain ⟨b, o, c, cs, rfl, hc, hq, hg, hn, hn0⟩ := (hx.mono hs).at hi
    simp (maxSteps := 1000000) (implicitDefEqProofs := false) (disch := (first | with_reducible rfl | omega | (simp only [H.next_add, H.next_set, H.next_del]; done) | (simp only [H.next_add, H.next_set, H.next_del]; omega) | fail)) only [go_sem, ↓reduceIte, Nat.reduceEqDiff, Nat.reduceAdd, Nat.reduceSub, Nat.reduceMul, reduceCtorEq, Nat.reduceLeDiff, e0, e1, e7, e8, hi', hq (nat_cst i), hc, hn0 (by omega), encI]
    refine (hp _ (List.getElem_mem hi)).use hs fun h2 hs2 => ?_
    cases hpr : p l[i] with
    | true =>
      simp (maxSteps := 1000000) (implicitDefEqProofs := false) (disch := (first | with_reducible rfl | omega | (simp only [H.next_add, H.next_set, H.next_del]; done) | (simp only [H.next_add, H.next_set, H.next_del]; omega) | fail)) only [go_sem, ↓reduceIte, Nat.reduceEqDiff, Nat.reduceAdd, Nat.reduceSub, Nat.reduceMul, reduceCtorEq, Nat.reduceLeDiff, e0, e1, e7, e8]
      exact ⟨by rw [e9, fidx_hit hi hpr], hs.trans hs2⟩
    | false =>
      simp (maxSteps := 1000000) (implicitDefEqProofs := false) (disch := (first | with_reducible rfl | omega | (simp only [H.next_add, H.next_set, H.next_del]; done) | (simp only [H.next_add, H.next_set, H.next_del]; omega) | fail)) only [go_sem, ↓reduceIte, Nat.reduceEqDiff, Nat.reduceAdd, Nat.reduceSub, Nat.reduceMul, reduceCtorEq, Nat.reduceLeDiff, e0, e1, e7, e8, wr_succ]
      exact ⟨_, _, rfl, hs.trans hs2, (by simp only [ev_c, ev_put, ↓reduceIte, Nat.reduceEqDiff, e0] <;> rfl), (by simp only [ev_c, ev_put, ↓reduceIte, Nat.reduceEqDiff, e1] <;> rfl), (by simp only [ev_c, ev_put, ↓reduceIte, Nat.reduceEqDiff, e7] <;> rfl), (by simp only [ev_c, ev_put, ↓reduceIte, Nat.reduceEqDiff] <;> rfl), by rw [e9, fidx_miss hi hpr]⟩
  · rintro s ⟨tm, h', rfl, hs, e0, e1, e7, e8, e9⟩
    simp (maxSteps := 1000000) (implicitDefEqProofs := false) (disch := (first | with_reducible rfl | omega | (simp only [H.next_add, H.next_set, H.next_del]; done) | (simp only [H.next_add, H.next_set, H.next_del]; omega) | fail)) only [go_sem, ↓reduceIte, Nat.reduceEqDiff, Nat.reduceAdd, Nat.reduceSub, Nat.reduceMul, reduceCtorEq, Nat.reduceLeDiff, e0, e1, e7, e8, Int.lt_irrefl]
    exact ⟨by rw [e9]; simp [fidx], hs⟩
theorem containsFuncInt_ev {l : List Int} {p : Int → Bool} {h : H} {x f : V} (hw : h.wf) (hx : SlAt h x 1 (l.map encI)) (hp : ∀ a ∈ l, PureA h f [.int .i64 a] (.bool (p a))) :
    E (.fn 64 [] []) [x, f] h fun v h' => v = .bool (l.any p) ∧ h.Sub h' := by
  refine Ev_body (fd := c64) rfl rfl rfl ?_
  simp (maxSteps := 1000000) (implicitDefEqProofs := false) (disch := (first | with_reducible rfl | omega | (simp only [H.next_add, H.next_set, H.next_del]; done) | (simp only [H.next_add, H.next_set, H.next_del]; omega) | fail)) only [c64, go_sem, ↓reduceIte, Nat.reduceEqDiff, Nat.reduceAdd, Nat.reduceSub, Nat.reduceMul, reduceCtorEq, Nat.reduceLeDiff]
  refine (indexFuncInt_ev hw hx hp).mono fun v h' hv => ?_
  obtain ⟨rfl, hs⟩ := hv
  simp (maxSteps := 1000000) (implicitDefEqProofs := false) (disch := (first | with_reducible rfl | omega | (simp only [H.next_add, H.next_set, H.next_del]; done) | (simp only [H.next_add, H.next_set, H.next_del]; omega) | fail)) only [go_sem, ↓reduceIte, Nat.reduceEqDiff, Nat.reduceAdd, Nat.reduceSub, Nat.reduceMul, reduceCtorEq, Nat.reduceLeDiff]
  exact ⟨by rw [fidx_any], hs⟩
theorem everyInt_ev {l : List Int} {p : Int → Bool} {h : H} {x : V} {g : FuncId} {u w : List V} (hw : h.wf) (hx : SlAt h x 1 (l.map encI)) (hp : ∀ a ∈ l, PureA h (.fn g u w) [.int .i64 a] (.bool (p a))) :
    E (.fn 92 [] []) [x, .fn g u w] h fun v h' => v = .bool (l.all p) ∧ h.Sub h' := by
  refine Ev_body (fd := c92) rfl rfl rfl ?_
  simp (maxSteps := 1000000) (implicitDefEqProofs := false) (disch := (first | with_reducible rfl | omega | (simp only [H.next_add, H.next_set, H.next_del]; done) | (simp only [H.next_add, H.next_set, H.next_del]; omega) | fail)) only [c92, go_sem, ↓reduceIte, Nat.reduceEqDiff, Nat.reduceAdd, Nat.reduceSub, Nat.reduceMul, reduceCtorEq, Nat.reduceLeDiff]
  have hs1 : h.Sub (h.add (.cells .rw [.fn g u w])) := (H.Sub.refl hw).add _
  refine (containsFuncInt_ev (p := fun a => !p a) hs1.wf (hx.mono hs1) fun a ha h2 hs2 => ?_).mono fun v h' hv => ?_
  · have hc : h2.cells h.next = some [.fn g u w] := hs2.cells (cells_add_new rfl)
    have hl : h.next < h2.next := by have := hs2.next; rw [H.next_add] at this; omega
    refine Ev_body (fd := c137) rfl rfl rfl ?_
    simp (maxSteps := 1000000) (implicitDefEqProofs := false) (disch := (first | with_reducible rfl | omega | (simp only [H.next_add, H.next_set, H.next_del]; done) | (simp only [H.next_add, H.next_set, H.next_del]; omega) | fail)) only [c137, go_sem, ↓reduceIte, Nat.reduceEqDiff, Nat.reduceAdd, Nat.reduceSub, Nat.reduceMul, reduceCtorEq, Nat.reduceLeDiff, hc]
    refine ((hp a ha).mono hs1).use hs2 fun h3 hs3 => ?_
    simp (maxSteps := 1000000) (implicitDefEqProofs := false) (disch := (first | with_reducible rfl | omega | (simp only [H.next_add, H.next_set, H.next_del]; done) | (simp only [H.next_add, H.next_set, H.next_del]; omega) | fail)) only [go_sem, ↓reduceIte, Nat.reduceEqDiff, Nat.reduceAdd, Nat.reduceSub, Nat.reduceMul, reduceCtorEq, Nat.reduceLeDiff]
    exact hs3
  · obtain ⟨rfl, hs⟩ := hv
    simp (maxSteps := 1000000) (implicitDefEqProofs := false) (disch := (first | with_reducible rfl | omega | (simp only [H.next_add, H.next_set, H.next_del]; done) | (simp only [H.next_add, H.next_set, H.next_del]; omega) | fail)) only [go_sem, ↓reduceIte, Nat.reduceEqDiff, Nat.reduceAdd, Nat.reduceSub, Nat.reduceMul, reduceCtorEq, Nat.reduceLeDiff]
    exact ⟨by rw [any_not], hs1.trans hs⟩

/-! ### Sum -/
theorem indexFuncSum_ev {α : Type} {enc : α → List V} {l : List α} {p : α → Bool} {h : H} {x f : V} (hw : h.wf) (hx : SlAt h x 2 (l.map enc)) (hp : ∀ a ∈ l, PureA h f [.agg (enc a)] (.bool (p a))) :
    E (.fn 159 [] []) [x, f] h fun v h' => v = .int .i64 (fidx p l 0) ∧ h.Sub h' := by
  have hb := hx.boundE
  refine Ev_body (fd := c159) rfl rfl rfl ?_
  simp (maxSteps := 1000000) (implicitDefEqProofs := false) (disch := (first | with_reducible rfl | omega | (simp only [H.next_add, H.next_set, H.next_del]; done) | (simp only [H.next_add, H.next_set, H.next_del]; omega) | fail)) only [c159, go_sem, ↓reduceIte, Nat.reduceEqDiff, Nat.reduceAdd, Nat.reduceSub, Nat.reduceMul, reduceCtorEq, Nat.reduceLeDiff, hx.lenE]
  refine W_count l.length (fun i s => ∃ tm h', s = ⟨tm, h', []⟩ ∧ h.Sub h' ∧ (Opd.t 0).ev tm = x ∧ (Opd.t 1).ev tm = f ∧ (Opd.t 7).ev tm = .int .i64 (l.length : Int) ∧ (Opd.t 8).ev tm = .int .i64 (i : Int) ∧ fidx p l 0 = fidx p (l.drop i) i)
    ?_ ?_ (i := 0) (Nat.zero_le _) ⟨_, _, rfl, H.Sub.refl hw, (by simp only [ev_c, ev_put, ↓reduceIte, Nat.reduceEqDiff] <;> rfl), (by simp only [ev_c, ev_put, ↓reduceIte, Nat.reduceEqDiff] <;> rfl), (by simp only [ev_c, ev_put, ↓reduceIte, Nat.reduceEqDiff] <;> rfl), (by simp only [ev_put]; rfl), rfl⟩
  · rintro i s hi ⟨tm, h', rfl, hs, e0, e1, e7, e8, e9⟩
    have hi' : (i : Int) < (l.length : Int) := by omega
    obtain ⟨b, o, c, cs, rfl, hc, hq, hg, hn, hn0⟩ := (hx.mono hs).at hi
    simp (maxSteps := 1000000) (implicitDefEqProofs := false) (disch := (first | with_reducible rfl | omega | (simp only [H.next_add, H.next_set, H.next_del]; done) | (simp only [H.next_add, H.next_set, H.next_del]; omega) | fail)) only [go_sem, ↓reduceIte, Nat.reduceEqDiff, Nat.reduceAdd, Nat.reduceSub, Nat.reduceMul, reduceCtorEq, Nat.reduceLeDiff, e0, e1, e7, e8, hi', hq (nat_cst i), hc, hg]
    refine (hp _ (List.getElem_mem hi)).use hs fun h2 hs2 => ?_
    cases hpr : p l[i] with
    | true =>
      simp (maxSteps := 1000000) (implicitDefEqProofs := false) (disch := (first | with_reducible rfl | omega | (simp only [H.next_add, H.next_set, H.next_del]; done) | (simp only [H.next_add, H.next_set, H.next_del]; omega) | fail)) only [go_sem, ↓reduceIte, Nat.reduceEqDiff, Nat.reduceAdd, Nat.reduceSub, Nat.reduceMul, reduceCtorEq, Nat.reduceLeDiff, e0, e1, e7, e8]
      exact ⟨by rw [e9, fidx_hit hi hpr], hs.trans hs2⟩
    | false =>
      simp (maxSteps := 1000000) (implicitDefEqProofs := false) (disch := (first | with_reducible rfl | omega | (simp only [H.next_add, H.next_set, H.next_del]; done) | (simp only [H.next_add, H.next_set, H.next_del]; omega) | fail)) only [go_sem, ↓reduceIte, Nat.reduceEqDiff, Nat.reduceAdd, Nat.reduceSub, Nat.reduceMul, reduceCtorEq, Nat.reduceLeDiff, e0, e1, e7, e8, wr_succ]
      exact ⟨_, _, rfl, hs.trans hs2, (by simp only [ev_c, ev_put, ↓reduceIte, Nat.reduceEqDiff, e0] <;> rfl), (by simp only [ev_c, ev_put, ↓reduceIte, Nat.reduceEqDiff, e1] <;> rfl), (by simp only [ev_c, ev_put, ↓reduceIte, Nat.reduceEqDiff, e7] <;> rfl), (by simp only [ev_c, ev_put, ↓reduceIte, Nat.reduceEqDiff] <;> rfl), by rw [e9, fidx_miss hi hpr]⟩
  · rintro s ⟨tm, h', rfl, hs, e0, e1, e7, e8, e9⟩
    simp (maxSteps := 1000000) (implicitDefEqProofs := false) (disch := (first | with_reducible rfl | omega | (simp only [H.next_add, H.next_set, H.next_del]; done) | (simp only [H.next_add, H.next_set, H.next_del]; omega) | fail)) only [go_sem, ↓reduceIte, Nat.reduceEqDiff, Nat.reduceAdd, Nat.reduceSub, Nat.reduceMul, reduceCtorEq, Nat.reduceLeDiff, e0, e1, e7, e8, Int.lt_irrefl]
    exact ⟨by rw [e9]; simp [fidx], hs⟩
theorem containsFuncSum_ev {α : Type} {enc : α → List V} {l : List α} {p : α → Bool} {h : H} {x f : V} (hw : h.wf) (hx : SlAt h x 2 (l.map enc)) (hp : ∀ a ∈ l, PureA h f [.agg (enc a)] (.bool (p a))) :
    E (.fn 154 [] []) [x, f] h fun v h' => v = .bool (l.any p) ∧ h.Sub h' := by
  refine Ev_body (fd := c154) rfl rfl rfl ?_
  simp (maxSteps := 1000000) (implicitDefEqProofs := false) (disch := (first | with_reducible rfl | omega | (simp only [H.next_add, H.next_set, H.next_del]; done) | (simp only [H.next_add, H.next_set, H.next_del]; omega) | fail)) only [c154, go_sem, ↓reduceIte, Nat.reduceEqDiff, Nat.reduceAdd, Nat.reduceSub, Nat.reduceMul, reduceCtorEq, Nat.reduceLeDiff]
  refine (indexFuncSum_ev hw hx hp).mono fun v h' hv => ?_
  obtain ⟨rfl, hs⟩ := hv
  simp (maxSteps := 1000000) (implicitDefEqProofs := false) (disch := (first | with_reducible rfl | omega | (simp only [H.next_add, H.next_set, H.next_del]; done) | (simp only [H.next_add, H.next_set, H.next_del]; omega) | fail)) only [go_sem, ↓reduceIte, Nat.reduceEqDiff, Nat.reduceAdd, Nat.reduceSub, Nat.reduceMul, reduceCtorEq, Nat.reduceLeDiff]
  exact ⟨by rw [fidx_any], hs⟩
theorem everySum_ev {α : Type} {enc : α → List V} {l : List α} {p : α → Bool} {h : H} {x : V} {g : FuncId} {u w : List V} (hw : h.wf) (hx : SlAt h x 2 (l.map enc)) (hp : ∀ a ∈ l, PureA h (.fn g u w) [.agg (enc a)] (.bool (p a))) :
    E (.fn 135 [] []) [x, .fn g u w] h fun v h' => v = .bool (l.all p) ∧ h.Sub h' := by
  refine Ev_body (fd := c135) rfl rfl rfl ?_
  simp (maxSteps := 1000000) (implicitDefEqProofs := false) (disch := (first | with_reducible rfl | omega | (simp only [H.next_add, H.next_set, H.next_del]; done) | (simp only [H.next_add, H.next_set, H.next_del]; omega) | fail)) only [c135, go_sem, ↓reduceIte, Nat.reduceEqDiff, Nat.reduceAdd, Nat.reduceSub, Nat.reduceMul, reduceCtorEq, Nat.reduceLeDiff]
  have hs1 : h.Sub (h.add (.cells .rw [.fn g u w])) := (H.Sub.refl hw).add _
  refine (containsFuncSum_ev (p := fun a => !p a) hs1.wf (hx.mono hs1) fun a ha h2 hs2 => ?_).mono fun v h' hv => ?_
  · have hc : h2.cells h.next = some [.fn g u w] := hs2.cells (cells_add_new rfl)
    have hl : h.next < h2.next := by have := hs2.next; rw [H.next_add] at this; omega
    refine Ev_body (fd := c155) rfl rfl rfl ?_
    simp (maxSteps := 1000000) (implicitDefEqProofs := false) (disch := (first | with_reducible rfl | omega | (simp only [H.next_add, H.next_set, H.next_del]; done) | (simp only [H.next_add, H.next_set, H.next_del]; omega) | fail)) only [c155, go_sem, ↓reduceIte, Nat.reduceEqDiff, Nat.reduceAdd, Nat.reduceSub, Nat.reduceMul, reduceCtorEq, Nat.reduceLeDiff, hc, getN_full (hx.1 _ (List.mem_map_of_mem ha))]
    refine ((hp a ha).mono hs1).use (hs2.add _) fun h3 hs3 => ?_
    simp (maxSteps := 1000000) (implicitDefEqProofs := false) (disch := (first | with_reducible rfl | omega | (simp only [H.next_add, H.next_set, H.next_del]; done) | (simp only [H.next_add, H.next_set, H.next_del]; omega) | fail)) only [go_sem, ↓reduceIte, Nat.reduceEqDiff, Nat.reduceAdd, Nat.reduceSub, Nat.reduceMul, reduceCtorEq, Nat.reduceLeDiff]
    exact (H.Sub.refl hs2.wf).add _ |>.trans hs3
  · obtain ⟨rfl, hs⟩ := hv
    simp (maxSteps := 1000000) (implicitDefEqProofs := false) (disch := (first | with_reducible rfl | omega | (simp only [H.next_add, H.next_set, H.next_del]; done) | (simp only [H.next_add, H.next_set, H.next_del]; omega) | fail)) only [go_sem, ↓reduceIte, Nat.reduceEqDiff, Nat.reduceAdd, Nat.reduceSub, Nat.reduceMul, reduceCtorEq, Nat.reduceLeDiff]
    exact ⟨by rw [any_not], hs1.trans hs⟩

/-! ### Equal, Int -/
theorem equalInt_ev {l r : List (Int)} {h : H} {x y : V} (hx : SlAt h x 1 (l.map encI)) (hy : SlAt h y 1 (r.map encI)) :
    E (.fn 95 [] []) [x, y] h fun v h' => v = .bool (decide (l = r)) ∧ h' = h := by
  have hb := hx.boundE
  refine Ev_body (fd := c95) rfl rfl rfl ?_
  by_cases hl : l.length = r.length
  · have hl' : (l.length : Int) = (r.length : Int) := by omega
    simp (maxSteps := 1000000) (implicitDefEqProofs := false) (disch := (first | with_reducible rfl | omega | (simp only [H.next_add, H.next_set, H.next_del]; done) | (simp only [H.next_add, H.next_set, H.next_del]; omega) | fail)) only [c95, go_sem, ↓reduceIte, Nat.reduceEqDiff, Nat.reduceAdd, Nat.reduceSub, Nat.reduceMul, reduceCtorEq, Nat.reduceLeDiff, hx.lenE, hy.lenE, hl', ne_eq, not_true_eq_false]
    refine W_count l.length (fun i s => ∃ tm, s = ⟨tm, h, []⟩ ∧ (Opd.t 0).ev tm = x ∧ (Opd.t 1).ev tm = y ∧ (Opd.t 12).ev tm = .int .i64 (l.length : Int) ∧ (Opd.t 13).ev tm = .int .i64 (i : Int) ∧ l.take i = r.take i)
      ?_ ?_ (i := 0) (Nat.zero_le _) ⟨_, rfl, (by simp only [ev_c, ev_put, ↓reduceIte, Nat.reduceEqDiff] <;> rfl), (by simp only [ev_c, ev_put, ↓reduceIte, Nat.reduceEqDiff] <;> rfl), (by simp only [ev_put, ↓reduceIte, Nat.reduceEqDiff, hl]), (by simp only [ev_put]; rfl), rfl⟩
    · rintro i s hi ⟨tm, rfl, e0, e1, e12, e13, e9⟩
      have hi' : (i : Int) < (l.length : Int) := by omega
      have hi2 : i < r.length := by omega
      obtain ⟨b, o, c, cs, rfl, hc, hq, hg, hn, hn0⟩ := hx.at hi
      obtain ⟨b2, o2, c2, cs2, rfl, hc2, hq2, hg2, hn2, hn02⟩ := hy.at hi2
      have h1 : (l[i] = r[i]) ↔ l.take (i + 1) = r.take (i + 1) := by
        rw [List.take_succ_eq_append_getElem hi, List.take_succ_eq_append_getElem hi2, e9]; simp only [List.append_cancel_left_eq, List.cons.injEq, and_true]
      -- have hf := q_feq_map l[i] r[i] (n := 1) (by simpa using hx.1 _ (List.mem_map_of_mem (List.getElem_mem hi))) (by simpa using hy.1 _ (List.mem_map_of_mem (List.getElem_mem hi2))) true
      by_cases he : l[i] = r[i]
      · have hl0 := hl
        simp (maxSteps := 1000000) (implicitDefEqProofs := false) (disch := (first | with_reducible rfl | omega | (simp only [H.next_add, H.next_set, H.next_del]; done) | (simp only [H.next_add, H.next_set, H.next_del]; omega) | fail)) only [go_sem, ↓reduceIte, Nat.reduceEqDiff, Nat.reduceAdd, Nat.reduceSub, Nat.reduceMul, reduceCtorEq, Nat.reduceLeDiff, e0, e1, e12, e13, hi', hq (nat_cst i), hq2 (nat_cst i), hc, hc2, hg, hg2, hn0 (by omega), hn02 (by omega), encI, he, ngB, ne_eq, not_true_eq_false, not_false_eq_true, wr_succ]
        exact ⟨_, rfl, (by simp only [ev_c, ev_put, ↓reduceIte, Nat.reduceEqDiff, e0] <;> rfl), (by simp only [ev_c, ev_put, ↓reduceIte, Nat.reduceEqDiff, e1] <;> rfl), (by simp only [ev_c, ev_put, ↓reduceIte, Nat.reduceEqDiff, e12] <;> rfl), (by simp only [ev_c, ev_put, ↓reduceIte, Nat.reduceEqDiff] <;> rfl), h1.1 he⟩
      · simp (maxSteps := 1000000) (implicitDefEqProofs := false) (disch := (first | with_reducible rfl | omega | (simp only [H.next_add, H.next_set, H.next_del]; done) | (simp only [H.next_add, H.next_set, H.next_del]; omega) | fail)) only [go_sem, ↓reduceIte, Nat.reduceEqDiff, Nat.reduceAdd, Nat.reduceSub, Nat.reduceMul, reduceCtorEq, Nat.reduceLeDiff, e0, e1, e12, e13, hi', hq (nat_cst i), hq2 (nat_cst i), hc, hc2, hg, hg2, hn0 (by omega), hn02 (by omega), encI, he, ngB, ne_eq, not_true_eq_false, not_false_eq_true, wr_succ]
        rw [decide_eq_false]
        intro e; exact he (h1.2 (by rw [e]))
    · rintro s ⟨tm, rfl, e0, e1, e12, e13, e9⟩
      simp (maxSteps := 1000000) (implicitDefEqProofs := false) (disch := (first | with_reducible rfl | omega | (simp only [H.next_add, H.next_set, H.next_del]; done) | (simp only [H.next_add, H.next_set, H.next_del]; omega) | fail)) only [go_sem, ↓reduceIte, Nat.reduceEqDiff, Nat.reduceAdd, Nat.reduceSub, Nat.reduceMul, reduceCtorEq, Nat.reduceLeDiff, e0, e1, e12, e13, Int.lt_irrefl]
      rw [decide_eq_true]
      rw [List.take_length, hl, List.take_length] at e9; exact e9
  · have hl' : ¬ (l.length : Int) = (r.length : Int) := by omega
    simp (maxSteps := 1000000) (implicitDefEqProofs := false) (disch := (first | with_reducible rfl | omega | (simp only [H.next_add, H.next_set, H.next_del]; done) | (simp only [H.next_add, H.next_set, H.next_del]; omega) | fail)) only [c95, go_sem, ↓reduceIte, Nat.reduceEqDiff, Nat.reduceAdd, Nat.reduceSub, Nat.reduceMul, reduceCtorEq, Nat.reduceLeDiff, hx.lenE, hy.lenE, hl', ne_eq, not_false_eq_true]
    rw [decide_eq_false]
    intro e; exact hl (by rw [e])
theorem eqInt_ev {l r : List (Int)} {h : H} {x y : V} (hx : SlAt h x 1 (l.map encI)) (hy : SlAt h y 1 (r.map encI)) (Q : V → H → Prop) :
    E (.fn 31 [] []) [x, y] h Q = Q (.bool (decide (l = r))) h := by
  refine Ev.det (Ev_body (fd := c31) rfl rfl rfl ?_) Q
  simp (maxSteps := 1000000) (implicitDefEqProofs := false) (disch := (first | with_reducible rfl | omega | (simp only [H.next_add, H.next_set, H.next_del]; done) | (simp only [H.next_add, H.next_set, H.next_del]; omega) | fail)) only [c31, go_sem, ↓reduceIte, Nat.reduceEqDiff, Nat.reduceAdd, Nat.reduceSub, Nat.reduceMul, reduceCtorEq, Nat.reduceLeDiff]
  refine (equalInt_ev hx hy).mono fun v h' hv => ?_
  obtain ⟨rfl, rfl⟩ := hv
  simp (maxSteps := 1000000) (implicitDefEqProofs := false) (disch := (first | with_reducible rfl | omega | (simp only [H.next_add, H.next_set, H.next_del]; done) | (simp only [H.next_add, H.next_set, H.next_del]; omega) | fail)) only [go_sem, ↓reduceIte, Nat.reduceEqDiff, Nat.reduceAdd, Nat.reduceSub, Nat.reduceMul, reduceCtorEq, Nat.reduceLeDiff]

/-! ### Equal, Span -/
theorem equalSpan_ev {l r : List (List Int)} {h : H} {x y : V} (hx : SlAt h x 2 (l.map (List.map iv))) (hy : SlAt h y 2 (r.map (List.map iv))) :
    E (.fn 97 [] []) [x, y] h fun v h' => v = .bool (decide (l = r)) ∧ h' = h := by
  have hb := hx.boundE
  refine Ev_body (fd := c97) rfl rfl rfl ?_
  by_cases hl : l.length = r.length
  · have hl' : (l.length : Int) = (r.length : Int) := by omega
    simp (maxSteps := 1000000) (implicitDefEqProofs := false) (disch := (first | with_reducible rfl | omega | (simp only [H.next_add, H.next_set, H.next_del]; done) | (simp only [H.next_add, H.next_set, H.next_del]; omega) | fail)) only [c97, go_sem, ↓reduceIte, Nat.reduceEqDiff, Nat.reduceAdd, Nat.reduceSub, Nat.reduceMul, reduceCtorEq, Nat.reduceLeDiff, hx.lenE, hy.lenE, hl', ne_eq, not_true_eq_false]
    refine W_count l.length (fun i s => ∃ tm, s = ⟨tm, h, []⟩ ∧ (Opd.t 0).ev tm = x ∧ (Opd.t 1).ev tm = y ∧ (Opd.t 12).ev tm = .int .i64 (l.length : Int) ∧ (Opd.t 13).ev tm = .int .i64 (i : Int) ∧ l.take i = r.take i)
      ?_ ?_ (i := 0) (Nat.zero_le _) ⟨_, rfl, (by simp only [ev_c, ev_put, ↓reduceIte, Nat.reduceEqDiff] <;> rfl), (by simp only [ev_c, ev_put, ↓reduceIte, Nat.reduceEqDiff] <;> rfl), (by simp only [ev_put, ↓reduceIte, Nat.reduceEqDiff, hl]), (by simp only [ev_put]; rfl), rfl⟩
    · rintro i s hi ⟨tm, rfl, e0, e1, e12, e13, e9⟩
      have hi' : (i : Int) < (l.length : Int) := by omega
      have hi2 : i < r.length := by omega
      obtain ⟨b, o, c, cs, rfl, hc, hq, hg, hn, hn0⟩ := hx.at hi
      obtain ⟨b2, o2, c2, cs2, rfl, hc2, hq2, hg2, hn2, hn02⟩ := hy.at hi2
      have h1 : (l[i] = r[i]) ↔ l.take (i + 1) = r.take (i + 1) := by
        rw [List.take_succ_eq_append_getElem hi, List.take_succ_eq_append_getElem hi2, e9]; simp only [List.append_cancel_left_eq, List.cons.injEq, and_true]
      have hf := q_feq_map l[i] r[i] (n := 2) (by simpa using hx.1 _ (List.mem_map_of_mem (List.getElem_mem hi))) (by simpa using hy.1 _ (List.mem_map_of_mem (List.getElem_mem hi2))) true
      by_cases he : l[i] = r[i]
      · rw [he] at hf
        simp (maxSteps := 1000000) (implicitDefEqProofs := false) (disch := (first | with_reducible rfl | omega | (simp only [H.next_add, H.next_set, H.next_del]; done) | (simp only [H.next_add, H.next_set, H.next_del]; omega) | fail)) only [go_sem, ↓reduceIte, Nat.reduceEqDiff, Nat.reduceAdd, Nat.reduceSub, Nat.reduceMul, reduceCtorEq, Nat.reduceLeDiff, e0, e1, e12, e13, hi', hq (nat_cst i), hq2 (nat_cst i), hc, hc2, hg, hg2, hf, he, ngB, wr_succ]
        exact ⟨_, rfl, (by simp only [ev_c, ev_put, ↓reduceIte, Nat.reduceEqDiff, e0] <;> rfl), (by simp only [ev_c, ev_put, ↓reduceIte, Nat.reduceEqDiff, e1] <;> rfl), (by simp only [ev_c, ev_put, ↓reduceIte, Nat.reduceEqDiff, e12] <;> rfl), (by simp only [ev_c, ev_put, ↓reduceIte, Nat.reduceEqDiff] <;> rfl), h1.1 he⟩
      · simp (maxSteps := 1000000) (implicitDefEqProofs := false) (disch := (first | with_reducible rfl | omega | (simp only [H.next_add, H.next_set, H.next_del]; done) | (simp only [H.next_add, H.next_set, H.next_del]; omega) | fail)) only [go_sem, ↓reduceIte, Nat.reduceEqDiff, Nat.reduceAdd, Nat.reduceSub, Nat.reduceMul, reduceCtorEq, Nat.reduceLeDiff, e0, e1, e12, e13, hi', hq (nat_cst i), hq2 (nat_cst i), hc, hc2, hg, hg2, hf, he, ngB, wr_succ]
        rw [decide_eq_false]
        intro e; exact he (h1.2 (by rw [e]))
    · rintro s ⟨tm, rfl, e0, e1, e12, e13, e9⟩
      simp (maxSteps := 1000000) (implicitDefEqProofs := false) (disch := (first | with_reducible rfl | omega | (simp only [H.next_add, H.next_set, H.next_del]; done) | (simp only [H.next_add, H.next_set, H.next_del]; omega) | fail)) only [go_sem, ↓reduceIte, Nat.reduceEqDiff, Nat.reduceAdd, Nat.reduceSub, Nat.reduceMul, reduceCtorEq, Nat.reduceLeDiff, e0, e1, e12, e13, Int.lt_irrefl]
      rw [decide_eq_true]
      rw [List.take_length, hl, List.take_length] at e9; exact e9
  · have hl' : ¬ (l.length : Int) = (r.length : Int) := by omega
    simp (maxSteps := 1000000) (implicitDefEqProofs := false) (disch := (first | with_reducible rfl | omega | (simp only [H.next_add, H.next_set, H.next_del]; done) | (simp only [H.next_add, H.next_set, H.next_del]; omega) | fail)) only [c97, go_sem, ↓reduceIte, Nat.reduceEqDiff, Nat.reduceAdd, Nat.reduceSub, Nat.reduceMul, reduceCtorEq, Nat.reduceLeDiff, hx.lenE, hy.lenE, hl', ne_eq, not_false_eq_true]
    rw [decide_eq_false]
    intro e; exact hl (by rw [e])
theorem eqSpan_ev {l r : List (List Int)} {h : H} {x y : V} (hx : SlAt h x 2 (l.map (List.map iv))) (hy : SlAt h y 2 (r.map (List.map iv))) (Q : V → H → Prop) :
    E (.fn 38 [] []) [x, y] h Q = Q (.bool (decide (l = r))) h := by
  refine Ev.det (Ev_body (fd := c38) rfl rfl rfl ?_) Q
  simp (maxSteps := 1000000) (implicitDefEqProofs := false) (disch := (first | with_reducible rfl | omega | (simp only [H.next_add, H.next_set, H.next_del]; done) | (simp only [H.next_add, H.next_set, H.next_del]; omega) | fail)) only [c38, go_sem, ↓reduceIte, Nat.reduceEqDiff, Nat.reduceAdd, Nat.reduceSub, Nat.reduceMul, reduceCtorEq, Nat.reduceLeDiff]
  refine (equalSpan_ev hx hy).mono fun v h' hv => ?_
  obtain ⟨rfl, rfl⟩ := hv
  simp (maxSteps := 1000000) (implicitDefEqProofs := false) (disch := (first | with_reducible rfl | omega | (simp only [H.next_add, H.next_set, H.next_del]; done) | (simp only [H.next_add, H.next_set, H.next_del]; omega) | fail)) only [go_sem, ↓reduceIte, Nat.reduceEqDiff, Nat.reduceAdd, Nat.reduceSub, Nat.reduceMul, reduceCtorEq, Nat.reduceLeDiff]

/-! ### Equal, Kind -/
theorem equalKind_ev {l r : List (Int)} {h : H} {x y : V} (hx : SlAt h x 1 (l.map encI)) (hy : SlAt h y 1 (r.map encI)) :
    E (.fn 123 [] []) [x, y] h fun v h' => v = .bool (decide (l = r)) ∧ h' = h := by
  have hb := hx.boundE
  refine Ev_body (fd := c123) rfl rfl rfl ?_
  by_cases hl : l.length = r.length
  · have hl' : (l.length : Int) = (r.length : Int) := by omega
    simp (maxSteps := 1000000) (implicitDefEqProofs := false) (disch := (first | with_reducible rfl | omega | (simp only [H.next_add, H.next_set, H.next_del]; done) | (simp only [H.next_add, H.next_set, H.next_del]; omega) | fail)) only [c123, go_sem, ↓reduceIte, Nat.reduceEqDiff, Nat.reduceAdd, Nat.reduceSub, Nat.reduceMul, reduceCtorEq, Nat.reduceLeDiff, hx.lenE, hy.lenE, hl', ne_eq, not_true_eq_false]
    refine W_count l.length (fun i s => ∃ tm, s = ⟨tm, h, []⟩ ∧ (Opd.t 0).ev tm = x ∧ (Opd.t 1).ev tm = y ∧ (Opd.t 12).ev tm = .int .i64 (l.length : Int) ∧ (Opd.t 13).ev tm = .int .i64 (i : Int) ∧ l.take i = r.take i)
      ?_ ?_ (i := 0) (Nat.zero_le _) ⟨_, rfl, (by simp only [ev_c, ev_put, ↓reduceIte, Nat.reduceEqDiff] <;> rfl), (by simp only [ev_c, ev_put, ↓reduceIte, Nat.reduceEqDiff] <;> rfl), (by simp only [ev_put, ↓reduceIte, Nat.reduceEqDiff, hl]), (by simp only [ev_put]; rfl), rfl⟩
    · rintro i s hi ⟨tm, rfl, e0, e1, e12, e13, e9⟩
      have hi' : (i : Int) < (l.length : Int) := by omega
      have hi2 : i < r.length := by omega
      obtain ⟨b, o, c, cs, rfl, hc, hq, hg, hn, hn0⟩ := hx.at hi
      obtain ⟨b2, o2, c2, cs2, rfl, hc2, hq2, hg2, hn2, hn02⟩ := hy.at hi2
      have h1 : (l[i] = r[i]) ↔ l.take (i + 1) = r.take (i + 1) := by
        rw [List.take_succ_eq_append_getElem hi, List.take_succ_eq_append_getElem hi2, e9]; simp only [List.append_cancel_left_eq, List.cons.injEq, and_true]
      -- have hf := q_feq_map l[i] r[i] (n := 1) (by simpa using hx.1 _ (List.mem_map_of_mem (List.getElem_mem hi))) (by simpa using hy.1 _ (List.mem_map_of_mem (List.getElem_mem hi2))) true
      by_cases he : l[i] = r[i]
      · have hl0 := hl
        simp (maxSteps := 1000000) (implicitDefEqProofs := false) (disch := (first | with_reducible rfl | omega | (simp only [H.next_add, H.next_set, H.next_del]; done) | (simp only [H.next_add, H.next_set, H.next_del]; omega) | fail)) only [go_sem, ↓reduceIte, Nat.reduceEqDiff, Nat.reduceAdd, Nat.reduceSub, Nat.reduceMul, reduceCtorEq, Nat.reduceLeDiff, e0, e1, e12, e13, hi', hq (nat_cst i), hq2 (nat_cst i), hc, hc2, hg, hg2, hn0 (by omega), hn02 (by omega), encI, he, ngB, ne_eq, not_true_eq_false, not_false_eq_true, wr_succ]
        exact ⟨_, rfl, (by simp only [ev_c, ev_put, ↓reduceIte, Nat.reduceEqDiff, e0] <;> rfl), (by simp only [ev_c, ev_put, ↓reduceIte, Nat.reduceEqDiff, e1] <;> rfl), (by simp only [ev_c, ev_put, ↓reduceIte, Nat.reduceEqDiff, e12] <;> rfl), (by simp only [ev_c, ev_put, ↓reduceIte, Nat.reduceEqDiff] <;> rfl), h1.1 he⟩
      · simp (maxSteps := 1000000) (implicitDefEqProofs := false) (disch := (first | with_reducible rfl | omega | (simp only [H.next_add, H.next_set, H.next_del]; done) | (simp only [H.next_add, H.next_set, H.next_del]; omega) | fail)) only [go_sem, ↓reduceIte, Nat.reduceEqDiff, Nat.reduceAdd, Nat.reduceSub, Nat.reduceMul, reduceCtorEq, Nat.reduceLeDiff, e0, e1, e12, e13, hi', hq (nat_cst i), hq2 (nat_cst i), hc, hc2, hg, hg2, hn0 (by omega), hn02 (by omega), encI, he, ngB, ne_eq, not_true_eq_false, not_false_eq_true, wr_succ]
        rw [decide_eq_false]
        intro e; exact he (h1.2 (by rw [e]))
    · rintro s ⟨tm, rfl, e0, e1, e12, e13, e9⟩
      simp (maxSteps := 1000000) (implicitDefEqProofs := false) (disch := (first | with_reducible rfl | omega | (simp only [H.next_add, H.next_set, H.next_del]; done) | (simp only [H.next_add, H.next_set, H.next_del]; omega) | fail)) only [go_sem, ↓reduceIte, Nat.reduceEqDiff, Nat.reduceAdd, Nat.reduceSub, Nat.reduceMul, reduceCtorEq, Nat.reduceLeDiff, e0, e1, e12, e13, Int.lt_irrefl]
      rw [decide_eq_true]
      rw [List.take_length, hl, List.take_length] at e9; exact e9
  · have hl' : ¬ (l.length : Int) = (r.length : Int) := by omega
    simp (maxSteps := 1000000) (implicitDefEqProofs := false) (disch := (first | with_reducible rfl | omega | (simp only [H.next_add, H.next_set, H.next_del]; done) | (simp only [H.next_add, H.next_set, H.next_del]; omega) | fail)) only [c123, go_sem, ↓reduceIte, Nat.reduceEqDiff, Nat.reduceAdd, Nat.reduceSub, Nat.reduceMul, reduceCtorEq, Nat.reduceLeDiff, hx.lenE, hy.lenE, hl', ne_eq, not_false_eq_true]
    rw [decide_eq_false]
    intro e; exact hl (by rw [e])
theorem eqKind_ev {l r : List (Int)} {h : H} {x y : V} (hx : SlAt h x 1 (l.map encI)) (hy : SlAt h y 1 (r.map encI)) (Q : V → H → Prop) :
    E (.fn 67 [] []) [x, y] h Q = Q (.bool (decide (l = r))) h := by
  refine Ev.det (Ev_body (fd := c67) rfl rfl rfl ?_) Q
  simp (maxSteps := 1000000) (implicitDefEqProofs := false) (disch := (first | with_reducible rfl | omega | (simp only [H.next_add, H.next_set, H.next_del]; done) | (simp only [H.next_add, H.next_set, H.next_del]; omega) | fail)) only [c67, go_sem, ↓reduceIte, Nat.reduceEqDiff, Nat.reduceAdd, Nat.reduceSub, Nat.reduceMul, reduceCtorEq, Nat.reduceLeDiff]
  refine (equalKind_ev hx hy).mono fun v h' hv => ?_
  obtain ⟨rfl, rfl⟩ := hv
  simp (maxSteps := 1000000) (implicitDefEqProofs := false) (disch := (first | with_reducible rfl | omega | (simp only [H.next_add, H.next_set, H.next_del]; done) | (simp only [H.next_add, H.next_set, H.next_del]; omega) | fail)) only [go_sem, ↓reduceIte, Nat.reduceEqDiff, Nat.reduceAdd, Nat.reduceSub, Nat.reduceMul, reduceCtorEq, Nat.reduceLeDiff]

/-! ### Equal, Lot -/
theorem equalLot_ev {l r : List (List Int)} {h : H} {x y : V} (hx : SlAt h x 2 (l.map (List.map iv))) (hy : SlAt h y 2 (r.map (List.map iv))) :
    E (.fn 132 [] []) [x, y] h fun v h' => v = .bool (decide (l = r)) ∧ h' = h := by
  have hb := hx.boundE
  refine Ev_body (fd := c132) rfl rfl rfl ?_
  by_cases hl : l.length = r.length
  · have hl' : (l.length : Int) = (r.length : Int) := by omega
    simp (maxSteps := 1000000) (implicitDefEqProofs := false) (disch := (first | with_reducible rfl | omega | (simp only [H.next_add, H.next_set, H.next_del]; done) | (simp only [H.next_add, H.next_set, H.next_del]; omega) | fail)) only [c132, go_sem, ↓reduceIte, Nat.reduceEqDiff, Nat.reduceAdd, Nat.reduceSub, Nat.reduceMul, reduceCtorEq, Nat.reduceLeDiff, hx.lenE, hy.lenE, hl', ne_eq, not_true_eq_false]
    refine W_count l.length (fun i s => ∃ tm, s = ⟨tm, h, []⟩ ∧ (Opd.t 0).ev tm = x ∧ (Opd.t 1).ev tm = y ∧ (Opd.t 12).ev tm = .int .i64 (l.length : Int) ∧ (Opd.t 13).ev tm = .int .i64 (i : Int) ∧ l.take i = r.take i)
      ?_ ?_ (i := 0) (Nat.zero_le _) ⟨_, rfl, (by simp only [ev_c, ev_put, ↓reduceIte, Nat.reduceEqDiff] <;> rfl), (by simp only [ev_c, ev_put, ↓reduceIte, Nat.reduceEqDiff] <;> rfl), (by simp only [ev_put, ↓reduceIte, Nat.reduceEqDiff, hl]), (by simp only [ev_put]; rfl), rfl⟩
    · rintro i s hi ⟨tm, rfl, e0, e1, e12, e13, e9⟩
      have hi' : (i : Int) < (l.length : Int) := by omega
      have hi2 : i < r.length := by omega
      obtain ⟨b, o, c, cs, rfl, hc, hq, hg, hn, hn0⟩ := hx.at hi
      obtain ⟨b2, o2, c2, cs2, rfl, hc2, hq2, hg2, hn2, hn02⟩ := hy.at hi2
      have h1 : (l[i] = r[i]) ↔ l.take (i + 1) = r.take (i + 1) := by
        rw [List.take_succ_eq_append_getElem hi, List.take_succ_eq_append_getElem hi2, e9]; simp only [List.append_cancel_left_eq, List.cons.injEq, and_true]
      have hf := q_feq_map l[i] r[i] (n := 2) (by simpa using hx.1 _ (List.mem_map_of_mem (List.getElem_mem hi))) (by simpa using hy.1 _ (List.mem_map_of_mem (List.getElem_mem hi2))) true
      by_cases he : l[i] = r[i]
      · rw [he] at hf
        simp (maxSteps := 1000000) (implicitDefEqProofs := false) (disch := (first | with_reducible rfl | omega | (simp only [H.next_add, H.next_set, H.next_del]; done) | (simp only [H.next_add, H.next_set, H.next_del]; omega) | fail)) only [go_sem, ↓reduceIte, Nat.reduceEqDiff, Nat.reduceAdd, Nat.reduceSub, Nat.reduceMul, reduceCtorEq, Nat.reduceLeDiff, e0, e1, e12, e13, hi', hq (nat_cst i), hq2 (nat_cst i), hc, hc2, hg, hg2, hf, he, ngB, wr_succ]
        exact ⟨_, rfl, (by simp only [ev_c, ev_put, ↓reduceIte, Nat.reduceEqDiff, e0] <;> rfl), (by simp only [ev_c, ev_put, ↓reduceIte, Nat.reduceEqDiff, e1] <;> rfl), (by simp only [ev_c, ev_put, ↓reduceIte, Nat.reduceEqDiff, e12] <;> rfl), (by simp only [ev_c, ev_put, ↓reduceIte, Nat.reduceEqDiff] <;> rfl), h1.1 he⟩
      · simp (maxSteps := 1000000) (implicitDefEqProofs := false) (disch := (first | with_reducible rfl | omega | (simp only [H.next_add, H.next_set, H.next_del]; done) | (simp only [H.next_add, H.next_set, H.next_del]; omega) | fail)) only [go_sem, ↓reduceIte, Nat.reduceEqDiff, Nat.reduceAdd, Nat.reduceSub, Nat.reduceMul, reduceCtorEq, Nat.reduceLeDiff, e0, e1, e12, e13, hi', hq (nat_cst i), hq2 (nat_cst i), hc, hc2, hg, hg2, hf, he, ngB, wr_succ]
        rw [decide_eq_false]
        intro e; exact he (h1.2 (by rw [e]))
    · rintro s ⟨tm, rfl, e0, e1, e12, e13, e9⟩
      simp (maxSteps := 1000000) (implicitDefEqProofs := false) (disch := (first | with_reducible rfl | omega | (simp only [H.next_add, H.next_set, H.next_del]; done) | (simp only [H.next_add, H.next_set, H.next_del]; omega) | fail)) only [go_sem, ↓reduceIte, Nat.reduceEqDiff, Nat.reduceAdd, Nat.reduceSub, Nat.reduceMul, reduceCtorEq, Nat.reduceLeDiff, e0, e1, e12, e13, Int.lt_irrefl]
      rw [decide_eq_true]
      rw [List.take_length, hl, List.take_length] at e9; exact e9
  · have hl' : ¬ (l.length : Int) = (r.length : Int) := by omega
    simp (maxSteps := 1000000) (implicitDefEqProofs := false) (disch := (first | with_reducible rfl | omega | (simp only [H.next_add, H.next_set, H.next_del]; done) | (simp only [H.next_add, H.next_set, H.next_del]; omega) | fail)) only [c132, go_sem, ↓reduceIte, Nat.reduceEqDiff, Nat.reduceAdd, Nat.reduceSub, Nat.reduceMul, reduceCtorEq, Nat.reduceLeDiff, hx.lenE, hy.lenE, hl', ne_eq, not_false_eq_true]
    rw [decide_eq_false]
    intro e; exact hl (by rw [e])
theorem eqLot_ev {l r : List (List Int)} {h : H} {x y : V} (hx : SlAt h x 2 (l.map (List.map iv))) (hy : SlAt h y 2 (r.map (List.map iv))) (Q : V → H → Prop) :
    E (.fn 83 [] []) [x, y] h Q = Q (.bool (decide (l = r))) h := by
  refine Ev.det (Ev_body (fd := c83) rfl rfl rfl ?_) Q
  simp (maxSteps := 1000000) (implicitDefEqProofs := false) (disch := (first | with_reducible rfl | omega | (simp only [H.next_add, H.next_set, H.next_del]; done) | (simp only [H.next_add, H.next_set, H.next_del]; omega) | fail)) only [c83, go_sem, ↓reduceIte, Nat.reduceEqDiff, Nat.reduceAdd, Nat.reduceSub, Nat.reduceMul, reduceCtorEq, Nat.reduceLeDiff]
  refine (equalLot_ev hx hy).mono fun v h' hv => ?_
  obtain ⟨rfl, rfl⟩ := hv
  simp (maxSteps := 1000000) (implicitDefEqProofs := false) (disch := (first | with_reducible rfl | omega | (simp only [H.next_add, H.next_set, H.next_del]; done) | (simp only [H.next_add, H.next_set, H.next_del]; omega) | fail)) only [go_sem, ↓reduceIte, Nat.reduceEqDiff, Nat.reduceAdd, Nat.reduceSub, Nat.reduceMul, reduceCtorEq, Nat.reduceLeDiff]

/-! ### Equal, Wg -/
theorem equalWg_ev {l r : List (List Int)} {h : H} {x y : V} (hx : SlAt h x 4 (l.map (List.map iv))) (hy : SlAt h y 4 (r.map (List.map iv))) :
    E (.fn 133 [] []) [x, y] h fun v h' => v = .bool (decide (l = r)) ∧ h' = h := by
  have hb := hx.boundE
  refine Ev_body (fd := c133) rfl rfl rfl ?_
  by_cases hl : l.length = r.length
  · have hl' : (l.length : Int) = (r.length : Int) := by omega
    simp (maxSteps := 1000000) (implicitDefEqProofs := false) (disch := (first | with_reducible rfl | omega | (simp only [H.next_add, H.next_set, H.next_del]; done) | (simp only [H.next_add, H.next_set, H.next_del]; omega) | fail)) only [c133, go_sem, ↓reduceIte, Nat.reduceEqDiff, Nat.reduceAdd, Nat.reduceSub, Nat.reduceMul, reduceCtorEq, Nat.reduceLeDiff, hx.lenE, hy.lenE, hl', ne_eq, not_true_eq_false]
    refine W_count l.length (fun i s => ∃ tm, s = ⟨tm, h, []⟩ ∧ (Opd.t 0).ev tm = x ∧ (Opd.t 1).ev tm = y ∧ (Opd.t 12).ev tm = .int .i64 (l.length : Int) ∧ (Opd.t 13).ev tm = .int .i64 (i : Int) ∧ l.take i = r.take i)
      ?_ ?_ (i := 0) (Nat.zero_le _) ⟨_, rfl, (by simp only [ev_c, ev_put, ↓reduceIte, Nat.reduceEqDiff] <;> rfl), (by simp only [ev_c, ev_put, ↓reduceIte, Nat.reduceEqDiff] <;> rfl), (by simp only [ev_put, ↓reduceIte, Nat.reduceEqDiff, hl]), (by simp only [ev_put]; rfl), rfl⟩
    · rintro i s hi ⟨tm, rfl, e0, e1, e12, e13, e9⟩
      have hi' : (i : Int) < (l.length : Int) := by omega
      have hi2 : i < r.length := by omega
      obtain ⟨b, o, c, cs, rfl, hc, hq, hg, hn, hn0⟩ := hx.at hi
      obtain ⟨b2, o2, c2, cs2, rfl, hc2, hq2, hg2, hn2, hn02⟩ := hy.at hi2
      have h1 : (l[i] = r[i]) ↔ l.take (i + 1) = r.take (i + 1) := by
        rw [List.take_succ_eq_append_getElem hi, List.take_succ_eq_append_getElem hi2, e9]; simp only [List.append_cancel_left_eq, List.cons.injEq, and_true]
      have hf := q_feq_map l[i] r[i] (n := 4) (by simpa using hx.1 _ (List.mem_map_of_mem (List.getElem_mem hi))) (by simpa using hy.1 _ (List.mem_map_of_mem (List.getElem_mem hi2))) true
      by_cases he : l[i] = r[i]
      · rw [he] at hf
        simp (maxSteps := 1000000) (implicitDefEqProofs := false) (disch := (first | with_reducible rfl | omega | (simp only [H.next_add, H.next_set, H.next_del]; done) | (simp only [H.next_add, H.next_set, H.next_del]; omega) | fail)) only [go_sem, ↓reduceIte, Nat.reduceEqDiff, Nat.reduceAdd, Nat.reduceSub, Nat.reduceMul, reduceCtorEq, Nat.reduceLeDiff, e0, e1, e12, e13, hi', hq (nat_cst i), hq2 (nat_cst i), hc, hc2, hg, hg2, hf, he, ngB, wr_succ]
        exact ⟨_, rfl, (by simp only [ev_c, ev_put, ↓reduceIte, Nat.reduceEqDiff, e0] <;> rfl), (by simp only [ev_c, ev_put, ↓reduceIte, Nat.reduceEqDiff, e1] <;> rfl), (by simp only [ev_c, ev_put, ↓reduceIte, Nat.reduceEqDiff, e12] <;> rfl), (by simp only [ev_c, ev_put, ↓reduceIte, Nat.reduceEqDiff] <;> rfl), h1.1 he⟩
      · simp (maxSteps := 1000000) (implicitDefEqProofs := false) (disch := (first | with_reducible rfl | omega | (simp only [H.next_add, H.next_set, H.next_del]; done) | (simp only [H.next_add, H.next_set, H.next_del]; omega) | fail)) only [go_sem, ↓reduceIte, Nat.reduceEqDiff, Nat.reduceAdd, Nat.reduceSub, Nat.reduceMul, reduceCtorEq, Nat.reduceLeDiff, e0, e1, e12, e13, hi', hq (nat_cst i), hq2 (nat_cst i), hc, hc2, hg, hg2, hf, he, ngB, wr_succ]
        rw [decide_eq_false]
        intro e; exact he (h1.2 (by rw [e]))
    · rintro s ⟨tm, rfl, e0, e1, e12, e13, e9⟩
      simp (maxSteps := 1000000) (implicitDefEqProofs := false) (disch := (first | with_reducible rfl | omega | (simp only [H.next_add, H.next_set, H.next_del]; done) | (simp only [H.next_add, H.next_set, H.next_del]; omega) | fail)) only [go_sem, ↓reduceIte, Nat.reduceEqDiff, Nat.reduceAdd, Nat.reduceSub, Nat.reduceMul, reduceCtorEq, Nat.reduceLeDiff, e0, e1, e12, e13, Int.lt_irrefl]
      rw [decide_eq_true]
      rw [List.take_length, hl, List.take_length] at e9; exact e9
  · have hl' : ¬ (l.length : Int) = (r.length : Int) := by omega
    simp (maxSteps := 1000000) (implicitDefEqProofs := false) (disch := (first | with_reducible rfl | omega | (simp only [H.next_add, H.next_set, H.next_del]; done) | (simp only [H.next_add, H.next_set, H.next_del]; omega) | fail)) only [c133, go_sem, ↓reduceIte, Nat.reduceEqDiff, Nat.reduceAdd, Nat.reduceSub, Nat.reduceMul, reduceCtorEq, Nat.reduceLeDiff, hx.lenE, hy.lenE, hl', ne_eq, not_false_eq_true]
    rw [decide_eq_false]
    intro e; exact hl (by rw [e])
theorem eqWg_ev {l r : List (List Int)} {h : H} {x y : V} (hx : SlAt h x 4 (l.map (List.map iv))) (hy : SlAt h y 4 (r.map (List.map iv))) (Q : V → H → Prop) :
    E (.fn 84 [] []) [x, y] h Q = Q (.bool (decide (l = r))) h := by
  refine Ev.det (Ev_body (fd := c84) rfl rfl rfl ?_) Q
  simp (maxSteps := 1000000) (implicitDefEqProofs := false) (disch := (first | with_reducible rfl | omega | (simp only [H.next_add, H.next_set, H.next_del]; done) | (simp only [H.next_add, H.next_set, H.next_del]; omega) | fail)) only [c84, go_sem, ↓reduceIte, Nat.reduceEqDiff, Nat.reduceAdd, Nat.reduceSub, Nat.reduceMul, reduceCtorEq, Nat.reduceLeDiff]
  refine (equalWg_ev hx hy).mono fun v h' hv => ?_
  obtain ⟨rfl, rfl⟩ := hv
  simp (maxSteps := 1000000) (implicitDefEqProofs := false) (disch := (first | with_reducible rfl | omega | (simp only [H.next_add, H.next_set, H.next_del]; done) | (simp only [H.next_add, H.next_set, H.next_del]; omega) | fail)) only [go_sem, ↓reduceIte, Nat.reduceEqDiff, Nat.reduceAdd, Nat.reduceSub, Nat.reduceMul, reduceCtorEq, Nat.reduceLeDiff]
end Go.Ab.Try
set_option linter.unusedSimpArgs false
set_option linter.unusedVariables false
namespace Go.Ab.Try
structure Wg where
  lot : Int
  reads : Int
  lo : Int
  hi : Int
structure Lt where
  frm : Int
  kind : Int
structure Ml where
  errs : Int
  lots : List Lt
  wgs : List Wg
def encW (w : Wg) : List V := [.int .i64 w.lot, .int .i64 w.reads, .int .i64 w.lo, .int .i64 w.hi]
def encL (l : Lt) : List V := [.int .i64 l.frm, .int .i64 l.kind]
/-- A mill as a value: its errs, lots and weighings. -/
def MlIs (h : H) (v : V) (m : Ml) : Prop := ∃ L W, v = .agg [.int .i64 m.errs, L, W] ∧ SlAt h L 2 (m.lots.map encL) ∧ SlAt h W 4 (m.wgs.map encW)
theorem MlIs.mono {h h' : H} (hs : h.Sub h') {v : V} {m : Ml} (a : MlIs h v m) : MlIs h' v m := by
  obtain ⟨L, W, e, a1, a2⟩ := a; exact ⟨L, W, e, a1.mono hs, a2.mono hs⟩

def inB (n lo hi : Int) : Bool := decide (lo ≤ n ∧ n ≤ hi)
def boundedW (w : Wg) : Bool := decide ((0 ≤ w.reads ∧ w.reads ≤ 10000) ∧ (0 ≤ w.lo ∧ w.lo ≤ 60) ∧ (0 ≤ w.hi ∧ w.hi ≤ 60))
def allowedK (k : Int) : Bool := decide (0 ≤ k ∧ k ≤ 3)
def fromsOk : List Lt → Nat → Bool
  | [], _ => true
  | l :: r, i => decide (-1 ≤ l.frm ∧ l.frm ≤ (i : Int) - 1) && fromsOk r (i + 1)
def check (m : Ml) : Int :=
  if ¬ (1 ≤ (m.lots.length : Int) ∧ (m.lots.length : Int) ≤ 12) then 2
  else if 10 < (m.wgs.length : Int) then 2
  else if ¬ (0 ≤ m.errs ∧ m.errs ≤ 50) then 3
  else if m.wgs.all boundedW = false then 3
  else if m.lots.all (fun l => allowedK l.kind) = false then 3
  else if fromsOk m.lots 0 = false then 1
  else if m.wgs.all (fun w => inB w.lot 0 ((m.lots.length : Int) - 1)) = false then 1
  else if m.wgs.all (fun w => decide (w.lo ≤ w.hi)) = false then 4
  else 0

theorem in_ev (n lo hi : Int) (h : H) (Q : V → H → Prop) : Ev fnG fastA (.fn 112 [] []) [.int .i64 n, .int .i64 lo, .int .i64 hi] h Q = Q (.bool (decide (lo ≤ n ∧ n ≤ hi))) h := by
  refine Ev.det (Ev_body (fd := c112) rfl rfl rfl ?_) Q
  by_cases h1 : lo ≤ n
  · simp only [c112, go_sem, ↓reduceIte, Nat.reduceEqDiff, Nat.reduceAdd, Nat.reduceSub, Nat.reduceMul, reduceCtorEq, Nat.reduceLeDiff, h1]
  · simp only [c112, go_sem, ↓reduceIte, Nat.reduceEqDiff, Nat.reduceAdd, Nat.reduceSub, Nat.reduceMul, reduceCtorEq, Nat.reduceLeDiff, h1, false_and]
theorem allowed_ev (k : Int) (h : H) (Q : V → H → Prop) : Ev fnG fastA (.fn 78 [] []) [.int .i64 k] h Q = Q (.bool (allowedK k)) h := by
  refine Ev.det (Ev_body (fd := c78) rfl rfl rfl ?_) Q
  by_cases h1 : 0 ≤ k
  · simp only [c78, go_sem, ↓reduceIte, Nat.reduceEqDiff, Nat.reduceAdd, Nat.reduceSub, Nat.reduceMul, reduceCtorEq, Nat.reduceLeDiff, h1, allowedK]
  · simp only [c78, go_sem, ↓reduceIte, Nat.reduceEqDiff, Nat.reduceAdd, Nat.reduceSub, Nat.reduceMul, reduceCtorEq, Nat.reduceLeDiff, h1, false_and, allowedK]
theorem bounded_ev (w : Wg) (h : H) (Q : V → H → Prop) : Ev fnG fastA (.fn 114 [] []) [.agg (encW w)] h Q = Q (.bool (boundedW w)) (h.add (.cells .rw (encW w))) := by
  refine Ev.det (Ev_body (fd := c114) rfl rfl rfl ?_) Q
  by_cases h1 : 0 ≤ w.reads ∧ w.reads ≤ 10000 <;> by_cases h2 : 0 ≤ w.lo ∧ w.lo ≤ 60 <;> simp (maxSteps := 1000000) (implicitDefEqProofs := false) (disch := (first | with_reducible rfl | omega | (simp only [H.next_add, H.next_set, H.next_del]; done) | (simp only [H.next_add, H.next_set, H.next_del]; omega) | fail)) only [c114, go_sem, ↓reduceIte, Nat.reduceEqDiff, Nat.reduceAdd, Nat.reduceSub, Nat.reduceMul, reduceCtorEq, Nat.reduceLeDiff, in_ev, h1, h2, false_and, boundedW, encW]
theorem bounded_pure (h : H) (w : Wg) : PureA h (.fn 114 [] []) [.agg (encW w)] (.bool (boundedW w)) := fun h1 hs => by
  rw [bounded_ev]; exact ⟨rfl, (H.Sub.refl hs.wf).add _⟩
theorem check1_ev (l : Lt) (h : H) (Q : V → H → Prop) : Ev fnG fastA (.fn 116 [] []) [.agg (encL l)] h Q = Q (.bool (allowedK l.kind)) (h.add (.cells .rw (encL l))) := by
  refine Ev.det (Ev_body (fd := c116) rfl rfl rfl ?_) Q
  simp (maxSteps := 1000000) (implicitDefEqProofs := false) (disch := (first | with_reducible rfl | omega | (simp only [H.next_add, H.next_set, H.next_del]; done) | (simp only [H.next_add, H.next_set, H.next_del]; omega) | fail)) only [c116, go_sem, ↓reduceIte, Nat.reduceEqDiff, Nat.reduceAdd, Nat.reduceSub, Nat.reduceMul, reduceCtorEq, Nat.reduceLeDiff, allowed_ev, encL]
theorem check1_pure (h : H) (l : Lt) : PureA h (.fn 116 [] []) [.agg (encL l)] (.bool (allowedK l.kind)) := fun h1 hs => by
  rw [check1_ev]; exact ⟨rfl, (H.Sub.refl hs.wf).add _⟩
theorem check3_ev (w : Wg) (h : H) (Q : V → H → Prop) : Ev fnG fastA (.fn 118 [] []) [.agg (encW w)] h Q = Q (.bool (decide (w.lo ≤ w.hi))) (h.add (.cells .rw (encW w))) := by
  refine Ev.det (Ev_body (fd := c118) rfl rfl rfl ?_) Q
  simp (maxSteps := 1000000) (implicitDefEqProofs := false) (disch := (first | with_reducible rfl | omega | (simp only [H.next_add, H.next_set, H.next_del]; done) | (simp only [H.next_add, H.next_set, H.next_del]; omega) | fail)) only [c118, go_sem, ↓reduceIte, Nat.reduceEqDiff, Nat.reduceAdd, Nat.reduceSub, Nat.reduceMul, reduceCtorEq, Nat.reduceLeDiff, encW]
theorem check3_pure (h : H) (w : Wg) : PureA h (.fn 118 [] []) [.agg (encW w)] (.bool (decide (w.lo ≤ w.hi))) := fun h1 hs => by
  rw [check3_ev]; exact ⟨rfl, (H.Sub.refl hs.wf).add _⟩
/-- (Mill).lot and (Mill).weighing, of the mill laid first. -/
theorem lot_ev {h : H} {v : V} {m : Ml} (hm : MlIs h v m) (n : Int) (Q : V → H → Prop) (q : ∀ h', h.Sub h' → Q (.bool (inB n 0 ((m.lots.length : Int) - 1))) h') (hw : h.wf) : Ev fnG fastA (.fn 91 [] []) [v, .int .i64 n] h Q := by
  obtain ⟨L, W, rfl, a1, a2⟩ := hm
  have hb := a1.boundE
  refine Ev_body (fd := c91) rfl rfl rfl ?_
  simp (maxSteps := 1000000) (implicitDefEqProofs := false) (disch := (first | with_reducible rfl | omega | (simp only [H.next_add, H.next_set, H.next_del]; done) | (simp only [H.next_add, H.next_set, H.next_del]; omega) | fail)) only [c91, go_sem, ↓reduceIte, Nat.reduceEqDiff, Nat.reduceAdd, Nat.reduceSub, Nat.reduceMul, reduceCtorEq, Nat.reduceLeDiff, a1.lenE, wr_in, in_ev]
  exact q _ ((H.Sub.refl hw).add _)
theorem weighing_ev {h : H} {v : V} {m : Ml} (hm : MlIs h v m) (n : Int) (Q : V → H → Prop) (q : ∀ h', h.Sub h' → Q (.bool (inB n 0 ((m.wgs.length : Int) - 1))) h') (hw : h.wf) : Ev fnG fastA (.fn 90 [] []) [v, .int .i64 n] h Q := by
  obtain ⟨L, W, rfl, a1, a2⟩ := hm
  have hb := a2.boundE
  refine Ev_body (fd := c90) rfl rfl rfl ?_
  simp (maxSteps := 1000000) (implicitDefEqProofs := false) (disch := (first | with_reducible rfl | omega | (simp only [H.next_add, H.next_set, H.next_del]; done) | (simp only [H.next_add, H.next_set, H.next_del]; omega) | fail)) only [c90, go_sem, ↓reduceIte, Nat.reduceEqDiff, Nat.reduceAdd, Nat.reduceSub, Nat.reduceMul, reduceCtorEq, Nat.reduceLeDiff, a2.lenE, wr_in, in_ev]
  exact q _ ((H.Sub.refl hw).add _)
/-- Check$2: whether the lot of a weighing is one, by a closure. -/
theorem check2_pure {h : H} {v : V} {m : Ml} (hm : MlIs h v m) {b : Nat} (hb : h.cells b = some [.fn 91 [v] []]) (w : Wg) : PureA h (.fn 117 [] [.ptr b 0]) [.agg (encW w)] (.bool (inB w.lot 0 ((m.lots.length : Int) - 1))) := fun h1 hs => by
  have hlt : b < h1.next := by
    obtain ⟨k, hk⟩ := H.cells_eq (hs.cells hb)
    exact hs.wf b _ hk
  have hb1 := hs.cells hb
  refine Ev_body (fd := c117) rfl rfl rfl ?_
  simp (maxSteps := 1000000) (implicitDefEqProofs := false) (disch := (first | with_reducible rfl | omega | (simp only [H.next_add, H.next_set, H.next_del]; done) | (simp only [H.next_add, H.next_set, H.next_del]; omega) | fail)) only [c117, go_sem, ↓reduceIte, Nat.reduceEqDiff, Nat.reduceAdd, Nat.reduceSub, Nat.reduceMul, reduceCtorEq, Nat.reduceLeDiff, hb1, encW]
  rw [Ev_fn]
  have hs2 := hs.add (.cells .rw [V.int IntKind.i64 w.lot, V.int IntKind.i64 w.reads, V.int IntKind.i64 w.lo, V.int IntKind.i64 w.hi])
  refine lot_ev (hm.mono hs2) w.lot _ (fun h' hs' => ?_) hs2.wf
  simp (maxSteps := 1000000) (implicitDefEqProofs := false) (disch := (first | with_reducible rfl | omega | (simp only [H.next_add, H.next_set, H.next_del]; done) | (simp only [H.next_add, H.next_set, H.next_del]; omega) | fail)) only [go_sem, ↓reduceIte, Nat.reduceEqDiff, Nat.reduceAdd, Nat.reduceSub, Nat.reduceMul, reduceCtorEq, Nat.reduceLeDiff]
  exact (H.Sub.refl hs.wf).add _ |>.trans hs'
theorem fromsOk_hit {l : List Lt} {i : Nat} (hi : i < l.length) (h : -1 ≤ l[i].frm ∧ l[i].frm ≤ (i : Int) - 1) : fromsOk (l.drop i) i = fromsOk (l.drop (i + 1)) (i + 1) := by
  rw [List.drop_eq_getElem_cons hi]; simp [fromsOk, h]
theorem fromsOk_miss {l : List Lt} {i : Nat} (hi : i < l.length) (h : ¬ (-1 ≤ l[i].frm ∧ l[i].frm ≤ (i : Int) - 1)) : fromsOk (l.drop i) i = false := by
  rw [List.drop_eq_getElem_cons hi]; simp [fromsOk, h]
theorem check_ev {h : H} {v : V} {m : Ml} (hw : h.wf) (hm : MlIs h v m) : Ev fnG fastA (.fn 54 [] []) [v] h fun u h' => u = .int .i64 (check m) ∧ h.Sub h' := by
  have hm0 := hm
  obtain ⟨L, W, rfl, aL, aW⟩ := hm
  have hbL := aL.boundE
  have hbW := aW.boundE
  refine Ev_body (fd := c54) rfl rfl rfl ?_
  have hs1 : h.Sub (h.add (.cells .rw [.int .i64 m.errs, L, W])) := (H.Sub.refl hw).add _
  by_cases c1 : 1 ≤ (m.lots.length : Int) ∧ (m.lots.length : Int) ≤ 12
  case neg =>
    simp (maxSteps := 1000000) (implicitDefEqProofs := false) (disch := (first | with_reducible rfl | omega | (simp only [H.next_add, H.next_set, H.next_del]; done) | (simp only [H.next_add, H.next_set, H.next_del]; omega) | fail)) only [c54, go_sem, ↓reduceIte, Nat.reduceEqDiff, Nat.reduceAdd, Nat.reduceSub, Nat.reduceMul, reduceCtorEq, Nat.reduceLeDiff, in_ev, aL.lenE, c1]
    exact ⟨by simp [check, c1], hs1⟩
  by_cases c2 : 10 < (m.wgs.length : Int)
  case pos =>
    simp (maxSteps := 1000000) (implicitDefEqProofs := false) (disch := (first | with_reducible rfl | omega | (simp only [H.next_add, H.next_set, H.next_del]; done) | (simp only [H.next_add, H.next_set, H.next_del]; omega) | fail)) only [c54, go_sem, ↓reduceIte, Nat.reduceEqDiff, Nat.reduceAdd, Nat.reduceSub, Nat.reduceMul, reduceCtorEq, Nat.reduceLeDiff, in_ev, aL.lenE, aW.lenE, c1, c2]
    exact ⟨by simp only [check, c1, c2, not_true_eq_false, and_self, ↓reduceIte], hs1⟩
  by_cases c3 : 0 ≤ m.errs ∧ m.errs ≤ 50
  case neg =>
    simp (maxSteps := 1000000) (implicitDefEqProofs := false) (disch := (first | with_reducible rfl | omega | (simp only [H.next_add, H.next_set, H.next_del]; done) | (simp only [H.next_add, H.next_set, H.next_del]; omega) | fail)) only [c54, go_sem, ↓reduceIte, Nat.reduceEqDiff, Nat.reduceAdd, Nat.reduceSub, Nat.reduceMul, reduceCtorEq, Nat.reduceLeDiff, in_ev, aL.lenE, aW.lenE, c1, c2, c3]
    exact ⟨by simp only [check, c1, c2, c3, not_true_eq_false, not_false_eq_true, and_self, ↓reduceIte], hs1⟩
  simp (maxSteps := 1000000) (implicitDefEqProofs := false) (disch := (first | with_reducible rfl | omega | (simp only [H.next_add, H.next_set, H.next_del]; done) | (simp only [H.next_add, H.next_set, H.next_del]; omega) | fail)) only [c54, go_sem, ↓reduceIte, Nat.reduceEqDiff, Nat.reduceAdd, Nat.reduceSub, Nat.reduceMul, reduceCtorEq, Nat.reduceLeDiff, in_ev, aL.lenE, aW.lenE, c1, c2, c3]
  refine (everyWg_ev hs1.wf (aW.mono hs1) fun w _ => bounded_pure _ w).mono fun u h2 hu => ?_
  obtain ⟨rfl, hs2⟩ := hu
  have g2 : h2.cells h.next = some [.int .i64 m.errs, L, W] := hs2.cells (cells_add_new rfl)
  have l2 : h.next < h2.next := by have := hs2.next; rw [H.next_add] at this; omega
  cases c4 : m.wgs.all boundedW
  case false =>
    simp (maxSteps := 1000000) (implicitDefEqProofs := false) (disch := (first | with_reducible rfl | omega | (simp only [H.next_add, H.next_set, H.next_del]; done) | (simp only [H.next_add, H.next_set, H.next_del]; omega) | fail)) only [go_sem, ↓reduceIte, Nat.reduceEqDiff, Nat.reduceAdd, Nat.reduceSub, Nat.reduceMul, reduceCtorEq, Nat.reduceLeDiff, c4]
    exact ⟨by simp only [check, c1, c2, c3, c4, not_true_eq_false, not_false_eq_true, and_self, ↓reduceIte], hs1.trans hs2⟩
  simp (maxSteps := 1000000) (implicitDefEqProofs := false) (disch := (first | with_reducible rfl | omega | (simp only [H.next_add, H.next_set, H.next_del]; done) | (simp only [H.next_add, H.next_set, H.next_del]; omega) | fail)) only [go_sem, ↓reduceIte, Nat.reduceEqDiff, Nat.reduceAdd, Nat.reduceSub, Nat.reduceMul, reduceCtorEq, Nat.reduceLeDiff, c4, g2]
  have hs12 := hs1.trans hs2
  refine (everyLot_ev hs2.wf (aL.mono hs12) fun l _ => check1_pure _ l).mono fun u h3 hu => ?_
  obtain ⟨rfl, hs3⟩ := hu
  have g3 := hs3.cells g2
  have l3 : h.next < h3.next := Nat.lt_of_lt_of_le l2 hs3.next
  have hs13 := hs12.trans hs3
  cases c5 : m.lots.all fun l => allowedK l.kind
  case false =>
    simp (maxSteps := 1000000) (implicitDefEqProofs := false) (disch := (first | with_reducible rfl | omega | (simp only [H.next_add, H.next_set, H.next_del]; done) | (simp only [H.next_add, H.next_set, H.next_del]; omega) | fail)) only [go_sem, ↓reduceIte, Nat.reduceEqDiff, Nat.reduceAdd, Nat.reduceSub, Nat.reduceMul, reduceCtorEq, Nat.reduceLeDiff, c5]
    exact ⟨by simp only [check, c1, c2, c3, c4, c5, not_true_eq_false, not_false_eq_true, and_self, ↓reduceIte, Bool.true_eq_false], hs13⟩
  simp (maxSteps := 1000000) (implicitDefEqProofs := false) (disch := (first | with_reducible rfl | omega | (simp only [H.next_add, H.next_set, H.next_del]; done) | (simp only [H.next_add, H.next_set, H.next_del]; omega) | fail)) only [go_sem, ↓reduceIte, Nat.reduceEqDiff, Nat.reduceAdd, Nat.reduceSub, Nat.reduceMul, reduceCtorEq, Nat.reduceLeDiff, c5, g3, aL.lenE]
  have c12 : ¬ (10 < (m.wgs.length : Int)) := c2
  refine W_count m.lots.length (fun i s => ∃ tm h', s = ⟨tm, h', []⟩ ∧ h3.Sub h' ∧ (Opd.t 1).ev tm = .ptr h.next 0 ∧ (Opd.t 34).ev tm = L ∧ (Opd.t 35).ev tm = .int .i64 (m.lots.length : Int) ∧ (Opd.t 36).ev tm = .int .i64 (i : Int) ∧ fromsOk m.lots 0 = fromsOk (m.lots.drop i) i)
    ?_ ?_ (i := 0) (Nat.zero_le _) ⟨_, _, rfl, H.Sub.refl hs3.wf, (by simp only [ev_c, ev_put, ↓reduceIte, Nat.reduceEqDiff] <;> rfl), (by simp only [ev_c, ev_put, ↓reduceIte, Nat.reduceEqDiff] <;> rfl), (by simp only [ev_c, ev_put, ↓reduceIte, Nat.reduceEqDiff] <;> rfl), (by simp only [ev_put]; rfl), rfl⟩
  · rintro i s hi ⟨tm, h', rfl, hs, e1, e34, e35, e36, e9⟩
    have hi' : (i : Int) < (m.lots.length : Int) := by omega
    obtain ⟨b, o, c, cs, rfl, hc, hq, hg, hn, hn0⟩ := (aL.mono (hs13.trans hs)).at hi
    have hs4 := hs.add (.cells .rw [.int .i64 m.lots[i].frm, .int .i64 m.lots[i].kind])
    by_cases c6 : -1 ≤ m.lots[i].frm ∧ m.lots[i].frm ≤ (i : Int) - 1
    · simp (maxSteps := 1000000) (implicitDefEqProofs := false) (disch := (first | with_reducible rfl | omega | (simp only [H.next_add, H.next_set, H.next_del]; done) | (simp only [H.next_add, H.next_set, H.next_del]; omega) | fail)) only [go_sem, ↓reduceIte, Nat.reduceEqDiff, Nat.reduceAdd, Nat.reduceSub, Nat.reduceMul, reduceCtorEq, Nat.reduceLeDiff, e1, e34, e35, e36, hi', hq (nat_cst i), hc, hg, encL, wr_in, in_ev, c6, wr_succ]
      exact ⟨_, _, rfl, hs4, (by simp only [ev_c, ev_put, ↓reduceIte, Nat.reduceEqDiff, e1] <;> rfl), (by simp only [ev_c, ev_put, ↓reduceIte, Nat.reduceEqDiff, e34] <;> rfl), (by simp only [ev_c, ev_put, ↓reduceIte, Nat.reduceEqDiff, e35] <;> rfl), (by simp only [ev_c, ev_put, ↓reduceIte, Nat.reduceEqDiff] <;> rfl), by rw [e9, fromsOk_hit hi c6]⟩
    · simp (maxSteps := 1000000) (implicitDefEqProofs := false) (disch := (first | with_reducible rfl | omega | (simp only [H.next_add, H.next_set, H.next_del]; done) | (simp only [H.next_add, H.next_set, H.next_del]; omega) | fail)) only [go_sem, ↓reduceIte, Nat.reduceEqDiff, Nat.reduceAdd, Nat.reduceSub, Nat.reduceMul, reduceCtorEq, Nat.reduceLeDiff, e1, e34, e35, e36, hi', hq (nat_cst i), hc, hg, encL, wr_in, in_ev, c6, wr_succ]
      have : fromsOk m.lots 0 = false := by rw [e9, fromsOk_miss hi c6]
      exact ⟨by simp only [check, c1, c12, c3, c4, c5, this, not_true_eq_false, not_false_eq_true, and_self, ↓reduceIte, Bool.true_eq_false], hs13.trans hs4⟩
  · rintro s ⟨tm, h', rfl, hs, e1, e34, e35, e36, e9⟩
    have c6 : fromsOk m.lots 0 = true := by rw [e9]; simp [fromsOk]
    have g4 := hs.cells g3
    have l4 : h.next < h'.next := Nat.lt_of_lt_of_le l3 hs.next
    have hs14 := hs13.trans hs
    simp (maxSteps := 1000000) (implicitDefEqProofs := false) (disch := (first | with_reducible rfl | omega | (simp only [H.next_add, H.next_set, H.next_del]; done) | (simp only [H.next_add, H.next_set, H.next_del]; omega) | fail)) only [go_sem, ↓reduceIte, Nat.reduceEqDiff, Nat.reduceAdd, Nat.reduceSub, Nat.reduceMul, reduceCtorEq, Nat.reduceLeDiff, e1, e34, e35, e36, Int.lt_irrefl, g4]
    have hm5 := (hm0.mono hs14).mono ((H.Sub.refl hs14.wf).add (.cells .rw [.fn 91 [.agg [.int .i64 m.errs, L, W]] []]))
    refine (everyWg_ev (H.Sub.wf (hs14.add _)) (aW.mono (hs14.add _)) fun w _ => check2_pure hm5 (cells_add_new rfl) w).mono fun u h6 hu => ?_
    obtain ⟨rfl, hs6⟩ := hu
    have g6 : h6.cells h.next = some [.int .i64 m.errs, L, W] := hs6.cells (by rw [cells_add_old l4]; exact g4)
    have hs16 := (hs14.add _).trans hs6
    have l6 : h.next < h6.next := by have := hs6.next; rw [H.next_add] at this; omega
    cases c7 : m.wgs.all (fun w => inB w.lot 0 ((m.lots.length : Int) - 1))
    case false =>
      simp (maxSteps := 1000000) (implicitDefEqProofs := false) (disch := (first | with_reducible rfl | omega | (simp only [H.next_add, H.next_set, H.next_del]; done) | (simp only [H.next_add, H.next_set, H.next_del]; omega) | fail)) only [go_sem, ↓reduceIte, Nat.reduceEqDiff, Nat.reduceAdd, Nat.reduceSub, Nat.reduceMul, reduceCtorEq, Nat.reduceLeDiff, c7]
      exact ⟨by simp only [check, c1, c12, c3, c4, c5, c6, c7, not_true_eq_false, not_false_eq_true, and_self, ↓reduceIte, Bool.true_eq_false], hs16⟩
    simp (maxSteps := 1000000) (implicitDefEqProofs := false) (disch := (first | with_reducible rfl | omega | (simp only [H.next_add, H.next_set, H.next_del]; done) | (simp only [H.next_add, H.next_set, H.next_del]; omega) | fail)) only [go_sem, ↓reduceIte, Nat.reduceEqDiff, Nat.reduceAdd, Nat.reduceSub, Nat.reduceMul, reduceCtorEq, Nat.reduceLeDiff, c7, e1, g6]
    refine (everyWg_ev hs16.wf (aW.mono hs16) fun w _ => check3_pure _ w).mono fun u h7 hu => ?_
    obtain ⟨rfl, hs7⟩ := hu
    have hs17 := hs16.trans hs7
    cases c8 : m.wgs.all (fun w => decide (w.lo ≤ w.hi))
    · simp (maxSteps := 1000000) (implicitDefEqProofs := false) (disch := (first | with_reducible rfl | omega | (simp only [H.next_add, H.next_set, H.next_del]; done) | (simp only [H.next_add, H.next_set, H.next_del]; omega) | fail)) only [go_sem, ↓reduceIte, Nat.reduceEqDiff, Nat.reduceAdd, Nat.reduceSub, Nat.reduceMul, reduceCtorEq, Nat.reduceLeDiff, c8]
      exact ⟨by simp only [check, c1, c12, c3, c4, c5, c6, c7, c8, not_true_eq_false, not_false_eq_true, and_self, ↓reduceIte, Bool.true_eq_false], hs17⟩
    · simp (maxSteps := 1000000) (implicitDefEqProofs := false) (disch := (first | with_reducible rfl | omega | (simp only [H.next_add, H.next_set, H.next_del]; done) | (simp only [H.next_add, H.next_set, H.next_del]; omega) | fail)) only [go_sem, ↓reduceIte, Nat.reduceEqDiff, Nat.reduceAdd, Nat.reduceSub, Nat.reduceMul, reduceCtorEq, Nat.reduceLeDiff, c8]
      exact ⟨by simp only [check, c1, c12, c3, c4, c5, c6, c7, c8, not_true_eq_false, not_false_eq_true, and_self, ↓reduceIte, Bool.true_eq_false], hs17⟩
end Go.Ab.Try
set_option linter.unusedSimpArgs false
set_option linter.unusedVariables false
namespace Go.Ab.Try
/-- The lots, from number 'i' on, that came from 'k'. -/
def partsL (k : Int) : List Lt → Nat → List Int
  | [], _ => []
  | l :: r, i => if l.frm = k then (i : Int) :: partsL k r (i + 1) else partsL k r (i + 1)
def parts (m : Ml) (k : Int) : List Int := partsL k m.lots 0
theorem partsL_app (k : Int) : ∀ (a b : List Lt) (i : Nat), partsL k (a ++ b) i = partsL k a i ++ partsL k b (i + a.length)
  | [], b, i => by simp [partsL]
  | l :: a, b, i => by
    have ih := partsL_app k a b (i + 1)
    simp only [List.cons_append, partsL, ih, List.length_cons]
    have e : i + 1 + a.length = i + (a.length + 1) := by omega
    rw [e]
    by_cases h : l.frm = k <;> simp [h]
theorem partsL_len (k : Int) : ∀ (a : List Lt) (i : Nat), (partsL k a i).length ≤ a.length
  | [], i => by simp [partsL]
  | l :: a, i => by
    have ih := partsL_len k a (i + 1)
    simp only [partsL]
    by_cases h : l.frm = k <;> simp [h] <;> omega
/-- The map of parts, as it stands. -/
def PtIs (h0 h : H) (l : List (Int × V)) (P : Int → List Int) : Prop :=
  (∀ k, (lkA k l = none ∧ P k = []) ∨ ∃ s, lkA k l = some s ∧ OwnSl h0 h s 1 ((P k).map encI)) ∧
  (∀ k j s t b, k ≠ j → lkA k l = some s → lkA j l = some t → blkOf s b → ¬ blkOf t b)
theorem opened_ev {h : H} {v : V} {m : Ml} (hw : h.wf) (hm : MlIs h v m) : Ev fnG fastA (.fn 87 [] []) [v] h fun u h' => h.Sub h' ∧ ((check m ≠ 0 ∧ u = .tup [.nilp, .int .i64 (check m)]) ∨
    (check m = 0 ∧ ∃ d pm l L W, u = .tup [.ptr d 0, .int .i64 0] ∧ h.next ≤ d ∧ h.next ≤ pm ∧ v = .agg [.int .i64 m.errs, L, W] ∧ h'.get d = some (.cells .rw [.int .i64 m.errs, L, W, .map pm]) ∧ h'.get pm = some (.map (encA l)) ∧ PtIs h h' l (parts m))) := by
  have hm0 := hm
  obtain ⟨L, W, rfl, aL, aW⟩ := hm
  have hbL := aL.boundE
  refine Ev_body (fd := c87) rfl rfl rfl ?_
  have hs1 : h.Sub (h.add (.cells .rw [.int .i64 m.errs, L, W])) := (H.Sub.refl hw).add _
  simp (maxSteps := 1000000) (implicitDefEqProofs := false) (disch := (first | with_reducible rfl | omega | (simp only [H.next_add, H.next_set, H.next_del]; done) | (simp only [H.next_add, H.next_set, H.next_del]; omega) | fail)) only [c87, go_sem, ↓reduceIte, Nat.reduceEqDiff, Nat.reduceAdd, Nat.reduceSub, Nat.reduceMul, reduceCtorEq, Nat.reduceLeDiff]
  refine (check_ev hs1.wf (hm0.mono hs1)).mono fun u h2 hu => ?_
  obtain ⟨rfl, hs2⟩ := hu
  have g2 : h2.cells h.next = some [.int .i64 m.errs, L, W] := hs2.cells (cells_add_new rfl)
  have l2 : h.next < h2.next := by have := hs2.next; rw [H.next_add] at this; omega
  have hs12 := hs1.trans hs2
  by_cases c : check m = 0
  case neg =>
    simp (maxSteps := 1000000) (implicitDefEqProofs := false) (disch := (first | with_reducible rfl | omega | (simp only [H.next_add, H.next_set, H.next_del]; done) | (simp only [H.next_add, H.next_set, H.next_del]; omega) | fail)) only [go_sem, ↓reduceIte, Nat.reduceEqDiff, Nat.reduceAdd, Nat.reduceSub, Nat.reduceMul, reduceCtorEq, Nat.reduceLeDiff, ne_eq, c, not_false_eq_true]
    exact ⟨hs12, .inl trivial⟩
  simp (maxSteps := 1000000) (implicitDefEqProofs := false) (disch := (first | with_reducible rfl | omega | (simp only [H.next_add, H.next_set, H.next_del]; done) | (simp only [H.next_add, H.next_set, H.next_del]; omega) | fail)) only [go_sem, ↓reduceIte, Nat.reduceEqDiff, Nat.reduceAdd, Nat.reduceSub, Nat.reduceMul, reduceCtorEq, Nat.reduceLeDiff, ne_eq, c, not_true_eq_false, g2, aL.lenE]
  have c0 := c
  have hs3 := (hs12.add (.map [])).add (.cells .rw [V.int IntKind.i64 m.errs, L, W, V.map h2.next])
  refine W_count m.lots.length (fun i s => ∃ tm h' l, s = ⟨tm, h', []⟩ ∧ h.Sub h' ∧ h2.next + 1 < h'.next ∧ (Opd.t 5).ev tm = .ptr (h2.next + 1) 0 ∧ (Opd.t 18).ev tm = L ∧ (Opd.t 19).ev tm = .int .i64 (m.lots.length : Int) ∧ (Opd.t 20).ev tm = .int .i64 (i : Int) ∧
      h'.get (h2.next + 1) = some (.cells .rw [.int .i64 m.errs, L, W, .map h2.next]) ∧ h'.get h2.next = some (.map (encA l)) ∧ PtIs h h' l (fun k => partsL k (m.lots.take i) 0))
    ?_ ?_ (i := 0) (Nat.zero_le _) ⟨_, _, [], rfl, hs3, by simp only [H.next_add]; omega, (by simp only [ev_c, ev_put, ↓reduceIte, Nat.reduceEqDiff] <;> rfl), (by simp only [ev_c, ev_put, ↓reduceIte, Nat.reduceEqDiff] <;> rfl), (by simp only [ev_c, ev_put, ↓reduceIte, Nat.reduceEqDiff] <;> rfl), (by simp only [ev_c, ev_put, ↓reduceIte, Nat.reduceEqDiff] <;> rfl), by rw [get_add_new (by rw [H.next_add])], by rw [get_add_old (by rw [H.next_add]; omega), get_add_new rfl]; rfl, ?_⟩
  · rintro i s hi ⟨tm, h', l, rfl, hs, lt, e5, e18, e19, e20, gd, gp, pt⟩
    have hi' : (i : Int) < (m.lots.length : Int) := by omega
    have l12 := hs12.next
    obtain ⟨b, o, c, cs, rfl, hc, hq, hg, hn, hn0⟩ := (aL.mono hs).at hi
    obtain ⟨x, hx, ox⟩ : ∃ x, found .nils false (lkA m.lots[i].frm l) = x ∧ OwnSl h h' x 1 ((partsL m.lots[i].frm (m.lots.take i) 0).map encI) := by
      rcases pt.1 m.lots[i].frm with ⟨e1, e2⟩ | ⟨s, e1, e2⟩
      · exact ⟨_, rfl, by rw [e1]; simp only at e2; rw [e2]; exact OwnSl.nil hs 1⟩
      · exact ⟨_, rfl, by rw [e1]; exact e2⟩
    simp (maxSteps := 1000000) (implicitDefEqProofs := false) (disch := (first | with_reducible rfl | omega | (simp only [H.next_add, H.next_set, H.next_del]; done) | (simp only [H.next_add, H.next_set, H.next_del]; omega) | fail)) only [go_sem, ↓reduceIte, Nat.reduceEqDiff, Nat.reduceAdd, Nat.reduceSub, Nat.reduceMul, reduceCtorEq, Nat.reduceLeDiff, e5, e18, e19, e20, hi', hq (nat_cst i), hc, hg, encL, gd, gp, cells_of gd, hx]
    have hA := hs.add (.cells .rw [.int .i64 m.lots[i].frm, .int .i64 m.lots[i].kind])
    have hB := hA.add (.cells .rw [.int .i64 (i : Int)])
    have sB : h'.Sub ((h'.add (.cells .rw [.int .i64 m.lots[i].frm, .int .i64 m.lots[i].kind])).add (.cells .rw [.int .i64 (i : Int)])) := ((H.Sub.refl hs.wf).add _).add _
    have hle := partsL_len m.lots[i].frm (m.lots.take i) 0
    rw [List.length_take] at hle
    have hck : m.lots.length ≤ 12 := by
      unfold check at c0
      by_cases hc1 : 1 ≤ (m.lots.length : Int) ∧ (m.lots.length : Int) ≤ 12
      · omega
      · simp [hc1] at c0
    refine OwnSl.app (ox.mono sB) hw (new := [encI i]) (by simp) (by simp [encI]) (by simp (maxSteps := 1000000) (implicitDefEqProofs := false) (disch := (first | with_reducible rfl | omega | (simp only [H.next_add, H.next_set, H.next_del]; done) | (simp only [H.next_add, H.next_set, H.next_del]; omega) | fail)) only [go_sem, ↓reduceIte, Nat.reduceEqDiff, Nat.reduceAdd, Nat.reduceSub, Nat.reduceMul, reduceCtorEq, Nat.reduceLeDiff, encI, List.flatten_cons, List.flatten_nil]) (by simp [lenV]) (by simp [encI, allOne, V.one]) (by simp only [List.length_map, List.length_singleton]; omega) (by simp only [List.length_map, List.length_singleton]; omega) fun h5 own5 k5 n5 => ?_
    have npm : ∀ b, blkOf x b → b ≠ h2.next := fun b hb e => by
      have := (ox.blk hb).2.2
      rw [e, gp] at this; cases this
    have nd : ∀ b, blkOf x b → b ≠ h2.next + 1 := fun b hb e => by
      have := (ox.blk hb).2.2
      rw [e, gd] at this; cases this
    have nx : ∀ b, blkOf x b → b < h'.next := fun b hb => (ox.blk hb).2.1
    have gd5 : h5.get (h2.next + 1) = some (.cells .rw [.int .i64 m.errs, .sl b o m.lots.length c, W, .map h2.next]) := k5.2 _ _ (sB.get gd) fun hb => nd _ hb rfl
    have gp5 : h5.get h2.next = some (.map (encA l)) := k5.2 _ _ (sB.get gp) fun hb => npm _ hb rfl
    have ga5 : h5.cells h'.next = some [.int .i64 m.lots[i].frm, .int .i64 m.lots[i].kind] := k5.cells (by simp (maxSteps := 1000000) (implicitDefEqProofs := false) (disch := (first | with_reducible rfl | omega | (simp only [H.next_add, H.next_set, H.next_del]; done) | (simp only [H.next_add, H.next_set, H.next_del]; omega) | fail)) only [go_sem, ↓reduceIte, Nat.reduceEqDiff, Nat.reduceAdd, Nat.reduceSub, Nat.reduceMul, reduceCtorEq, Nat.reduceLeDiff]) fun hb => by have := nx _ hb; omega
    have hl5 : h5.next = h'.next + 3 := by rw [n5]; simp only [H.next_add]
    have l2n : h2.next < h'.next := by omega
    have hbw : h'.cells b = some cs := hc
    simp (maxSteps := 1000000) (implicitDefEqProofs := false) (disch := (first | with_reducible rfl | omega | (simp only [H.next_add, H.next_set, H.next_del]; done) | (simp only [H.next_add, H.next_set, H.next_del]; omega) | fail)) only [go_sem, ↓reduceIte, Nat.reduceEqDiff, Nat.reduceAdd, Nat.reduceSub, Nat.reduceMul, reduceCtorEq, Nat.reduceLeDiff, e5, e18, e19, e20, gd5, gp5, ga5, cells_of gd5, gd, gp, cells_of gd, hx, wr_succ]
    have q6 : partsL m.lots[i].frm (m.lots.take (i + 1)) 0 = partsL m.lots[i].frm (m.lots.take i) 0 ++ [(i : Int)] := by
      rw [List.take_succ_eq_append_getElem hi, partsL_app]
      simp [partsL]; omega
    have q7 : ∀ k, k ≠ m.lots[i].frm → partsL k (m.lots.take (i + 1)) 0 = partsL k (m.lots.take i) 0 := fun k hk => by
      rw [List.take_succ_eq_append_getElem hi, partsL_app]
      have : ¬ m.lots[i].frm = k := fun e => hk e.symm
      simp [partsL, this]
    have hb6 : ∀ b, blkOf (.sl (h'.next + 1 + 1) 0 ((List.map encI (partsL m.lots[i].frm (List.take i m.lots) 0)).length + 1) (.slk 0 0)) b → b = h'.next + 2 := by
      rintro b ⟨o, n, c, e⟩; cases e; rfl
    have k6 := Keeps.set h5 h2.next (.map (encA (putA m.lots[i].frm (.sl (h'.next + 1 + 1) 0 ((List.map encI (partsL m.lots[i].frm (List.take i m.lots) 0)).length + 1) (.slk 0 0)) l)))
    have hs6 := own5.1.set hs12.next (by omega : h2.next < h5.next) hw (.map (encA (putA m.lots[i].frm (.sl (h'.next + 1 + 1) 0 ((List.map encI (partsL m.lots[i].frm (List.take i m.lots) 0)).length + 1) (.slk 0 0)) l)))
    refine ⟨_, _, putA m.lots[i].frm (.sl (h'.next + 1 + 1) 0 ((List.map encI (partsL m.lots[i].frm (List.take i m.lots) 0)).length + 1) (.slk 0 0)) l, rfl, hs6, by rw [H.next_set]; omega, (by simp only [ev_c, ev_put, ↓reduceIte, Nat.reduceEqDiff, e5] <;> rfl), (by simp only [ev_c, ev_put, ↓reduceIte, Nat.reduceEqDiff, e18] <;> rfl), (by simp only [ev_c, ev_put, ↓reduceIte, Nat.reduceEqDiff, e19] <;> rfl), (by simp only [ev_c, ev_put, ↓reduceIte, Nat.reduceEqDiff] <;> rfl), by rw [get_set_other (by omega)]; exact gd5, get_set_same rfl, fun k => ?_, fun k j s t b hkj hk hj hbs hbt => ?_⟩
    · rw [lkA_putA]
      by_cases hk : k = m.lots[i].frm
      · subst hk
        refine .inr ⟨_, if_pos rfl, ?_⟩
        dsimp only
        rw [q6, List.map_append]
        have o5 := own5
        simp only [H.next_add, List.length_singleton] at o5
        exact o5.keep k6 hs6 fun b hb e => by have := hb6 b hb; omega
      · rw [if_neg hk]
        rcases pt.1 k with ⟨e1, e2⟩ | ⟨s, e1, e2⟩
        · exact .inl ⟨e1, by dsimp only; rw [q7 k hk]; exact e2⟩
        · refine .inr ⟨s, e1, ?_⟩
          dsimp only
          rw [q7 k hk]
          have os := e2.mono sB
          have nsx : ∀ b, blkOf s b → ¬ blkOf x b := fun b hb hbx => by
            rcases pt.1 m.lots[i].frm with ⟨f1, f2⟩ | ⟨s', f1, f2⟩
            · rw [f1] at hx; obtain ⟨_, _, _, e⟩ := hbx; rw [← hx] at e; cases e
            · rw [f1] at hx; exact pt.2 k _ s s' b hk e1 f1 hb (by rw [← hx] at hbx; exact hbx)
          refine (os.keep k5 own5.1 nsx).keep k6 hs6 fun b hb e => ?_
          have := (e2.blk hb).2.2
          rw [e, gp] at this; cases this
    · rw [lkA_putA] at hk hj
      by_cases hk1 : k = m.lots[i].frm
      · have hj1 : ¬ j = m.lots[i].frm := fun e => hkj (hk1.trans e.symm)
        rw [if_pos hk1] at hk
        rw [if_neg hj1] at hj
        cases hk
        have := hb6 b hbs
        rcases pt.1 j with ⟨e1, _⟩ | ⟨s', e1, e2⟩
        · rw [e1] at hj; cases hj
        · rw [e1] at hj; cases hj
          have := (e2.blk hbt).2.1; omega
      · rw [if_neg hk1] at hk
        by_cases hj1 : j = m.lots[i].frm
        · rw [if_pos hj1] at hj
          cases hj
          have := hb6 b hbt
          rcases pt.1 k with ⟨e1, _⟩ | ⟨s', e1, e2⟩
          · rw [e1] at hk; cases hk
          · rw [e1] at hk; cases hk
            have := (e2.blk hbs).2.1; omega
        · rw [if_neg hj1] at hj
          exact pt.2 k j s t b hkj hk hj hbs hbt
  · rintro s ⟨tm, h', l, rfl, hs, lt, e5, e18, e19, e20, gd, gp, pt⟩
    simp (maxSteps := 1000000) (implicitDefEqProofs := false) (disch := (first | with_reducible rfl | omega | (simp only [H.next_add, H.next_set, H.next_del]; done) | (simp only [H.next_add, H.next_set, H.next_del]; omega) | fail)) only [go_sem, ↓reduceIte, Nat.reduceEqDiff, Nat.reduceAdd, Nat.reduceSub, Nat.reduceMul, reduceCtorEq, Nat.reduceLeDiff, e5, e18, e19, e20, Int.lt_irrefl]
    rw [List.take_length] at pt
    exact ⟨hs, .inr ⟨_, _, l, L, W, rfl, by omega, by omega, rfl, gd, gp, pt⟩⟩
  · exact ⟨fun k => .inl ⟨rfl, by simp [partsL]⟩, fun k j s t b _ hk => by cases hk⟩
end Go.Ab.Try
set_option linter.unusedSimpArgs false
set_option linter.unusedVariables false
namespace Go.Ab.Try
/-- What is so of a right mill. -/
structure Good (m : Ml) : Prop where
  lots : 1 ≤ m.lots.length ∧ m.lots.length ≤ 12
  wgs : m.wgs.length ≤ 10
  errs : 0 ≤ m.errs ∧ m.errs ≤ 50
  wg : ∀ w ∈ m.wgs, (0 ≤ w.reads ∧ w.reads ≤ 10000) ∧ (0 ≤ w.lo ∧ w.lo ≤ 60) ∧ (0 ≤ w.hi ∧ w.hi ≤ 60)
  kind : ∀ l ∈ m.lots, 0 ≤ l.kind ∧ l.kind ≤ 3
  frm : ∀ i (hi : i < m.lots.length), -1 ≤ m.lots[i].frm ∧ m.lots[i].frm ≤ (i : Int) - 1
  lot : ∀ w ∈ m.wgs, 0 ≤ w.lot ∧ w.lot ≤ (m.lots.length : Int) - 1
  ord : ∀ w ∈ m.wgs, w.lo ≤ w.hi
theorem fromsOk_iff : ∀ (l : List Lt) (k : Nat), fromsOk l k = true ↔ ∀ i (hi : i < l.length), -1 ≤ l[i].frm ∧ l[i].frm ≤ ((k + i : Nat) : Int) - 1
  | [], k => by simp [fromsOk]
  | l :: r, k => by
    simp only [fromsOk, Bool.and_eq_true, decide_eq_true_eq, fromsOk_iff r (k + 1)]
    constructor
    · rintro ⟨h1, h2⟩ i hi
      cases i with
      | zero => simpa using h1
      | succ i =>
        have := h2 i (by simpa using hi)
        simp only [List.getElem_cons_succ]
        have e : k + 1 + i = k + (i + 1) := by omega
        rw [e] at this; exact this
    · intro h
      refine ⟨by have := h 0 (by simp); simp only [List.getElem_cons_zero] at this; simpa using this, fun i hi => ?_⟩
      have := h (i + 1) (by simpa using hi)
      simp only [List.getElem_cons_succ] at this
      have e : k + 1 + i = k + (i + 1) := by omega
      rw [e]; exact this
theorem good_of {m : Ml} (h : check m = 0) : Good m := by
  unfold check at h
  repeat' split at h
  all_goals first | (exfalso; revert h; decide) | skip
  rename_i c1 c2 c3 c4 c5 c6 c7 c8
  simp only [Bool.not_eq_false] at c4 c5 c6 c7 c8
  rw [List.all_eq_true] at c4 c5 c7 c8
  rw [fromsOk_iff] at c6
  refine ⟨by omega, by omega, by omega, fun w hw => by simpa [boundedW] using c4 w hw, fun l hl => by simpa [allowedK] using c5 l hl, fun i hi => by simpa using c6 i hi, fun w hw => by simpa [inB] using c7 w hw, fun w hw => by simpa using c8 w hw⟩

/-- A mill at work, laid at 'd'. -/
def DkAt (h : H) (d : Nat) (m : Ml) : Prop := ∃ pm l L W, h.get d = some (.cells .rw [.int .i64 m.errs, L, W, .map pm]) ∧ h.get pm = some (.map (encA l)) ∧ SlAt h L 2 (m.lots.map encL) ∧ SlAt h W 4 (m.wgs.map encW) ∧
  ∀ k, SlAt h (found .nils false (lkA k l)) 1 ((parts m k).map encI)
theorem DkAt.mono {h h' : H} {d : Nat} {m : Ml} (a : DkAt h d m) (hs : h.Sub h') : DkAt h' d m := by
  obtain ⟨pm, l, L, W, a1, a2, a3, a4, a5⟩ := a
  exact ⟨pm, l, L, W, hs.get a1, hs.get a2, a3.mono hs, a4.mono hs, fun k => (a5 k).mono hs⟩
theorem parts_len (m : Ml) (k : Int) : (parts m k).length ≤ m.lots.length := partsL_len k m.lots 0
theorem opened_dk {h : H} {v : V} {m : Ml} (hw : h.wf) (hm : MlIs h v m) : Ev fnG fastA (.fn 87 [] []) [v] h fun u h' => h.Sub h' ∧ ((check m ≠ 0 ∧ u = .tup [.nilp, .int .i64 (check m)]) ∨
    (check m = 0 ∧ ∃ d, u = .tup [.ptr d 0, .int .i64 0] ∧ DkAt h' d m)) := by
  refine (opened_ev hw hm).mono fun u h' hu => ?_
  obtain ⟨hs, hu | ⟨c, d, pm, l, L, W, e1, _, _, e2, g1, g2, pt⟩⟩ := hu
  · exact ⟨hs, .inl hu⟩
  · refine ⟨hs, .inr ⟨c, d, e1, pm, l, L, W, g1, g2, ?_, ?_, fun k => ?_⟩⟩
    · obtain ⟨L', W', e, aL, aW⟩ := hm
      rw [e2] at e; cases e; exact aL.mono hs
    · obtain ⟨L', W', e, aL, aW⟩ := hm
      rw [e2] at e; cases e; exact aW.mono hs
    · have hl := parts_len m k
      have hg := (good_of c).lots
      rcases pt.1 k with ⟨f1, f2⟩ | ⟨s, f1, f2⟩
      · rw [f1, f2]; exact (OwnSl.nil hs 1).sl (by simp)
      · rw [f1]; exact f2.sl (by simp only [List.length_map]; omega)

/-- least(n, l..). -/
theorem least_ev {h : H} {x : V} {l : List Int} (hx : SlAt h x 1 (l.map encI)) (n : Int) (Q : V → H → Prop) : Ev fnG fastA (.fn 131 [] []) [.int .i64 n, x] h Q = Q (.int .i64 (l.foldl min n)) h := by
  have hb := hx.boundE
  refine Ev.det (Ev_body (fd := c131) rfl rfl rfl ?_) Q
  simp (maxSteps := 1000000) (implicitDefEqProofs := false) (disch := (first | with_reducible rfl | omega | (simp only [H.next_add, H.next_set, H.next_del]; done) | (simp only [H.next_add, H.next_set, H.next_del]; omega) | fail)) only [c131, go_sem, ↓reduceIte, Nat.reduceEqDiff, Nat.reduceAdd, Nat.reduceSub, Nat.reduceMul, reduceCtorEq, Nat.reduceLeDiff, hx.lenE]
  refine W_count l.length (fun i s => ∃ tm, s = ⟨tm, h, []⟩ ∧ (Opd.t 7).ev tm = x ∧ (Opd.t 8).ev tm = .int .i64 (l.length : Int) ∧ (Opd.t 9).ev tm = .int .i64 (i : Int) ∧ (Opd.t 0).ev tm = .int .i64 ((l.take i).foldl min n))
    ?_ ?_ (i := 0) (Nat.zero_le _) ⟨_, rfl, (by simp only [ev_c, ev_put, ↓reduceIte, Nat.reduceEqDiff] <;> rfl), (by simp only [ev_c, ev_put, ↓reduceIte, Nat.reduceEqDiff] <;> rfl), (by simp only [ev_c, ev_put, ↓reduceIte, Nat.reduceEqDiff] <;> rfl), (by simp only [ev_c, ev_put, ↓reduceIte, Nat.reduceEqDiff] <;> rfl)⟩
  · rintro i s hi ⟨tm, rfl, e7, e8, e9, e0⟩
    have hi' : (i : Int) < (l.length : Int) := by omega
    obtain ⟨b, o, c, cs, rfl, hc, hq, hg, hn, hn0⟩ := hx.at hi
    simp (maxSteps := 1000000) (implicitDefEqProofs := false) (disch := (first | with_reducible rfl | omega | (simp only [H.next_add, H.next_set, H.next_del]; done) | (simp only [H.next_add, H.next_set, H.next_del]; omega) | fail)) only [go_sem, ↓reduceIte, Nat.reduceEqDiff, Nat.reduceAdd, Nat.reduceSub, Nat.reduceMul, reduceCtorEq, Nat.reduceLeDiff, e7, e8, e9, e0, hi', hq (nat_cst i), hc, hn0 (by omega), encI, wr_succ]
    refine ⟨_, rfl, (by simp only [ev_c, ev_put, ↓reduceIte, Nat.reduceEqDiff, e7] <;> rfl), (by simp only [ev_c, ev_put, ↓reduceIte, Nat.reduceEqDiff, e8] <;> rfl), (by simp only [ev_c, ev_put, ↓reduceIte, Nat.reduceEqDiff] <;> rfl), ?_⟩
    rw [List.take_succ_eq_append_getElem hi, List.foldl_append]
    simp only [ev_put, ↓reduceIte, Nat.reduceEqDiff, List.foldl]
  · rintro s ⟨tm, rfl, e7, e8, e9, e0⟩
    simp (maxSteps := 1000000) (implicitDefEqProofs := false) (disch := (first | with_reducible rfl | omega | (simp only [H.next_add, H.next_set, H.next_del]; done) | (simp only [H.next_add, H.next_set, H.next_del]; omega) | fail)) only [go_sem, ↓reduceIte, Nat.reduceEqDiff, Nat.reduceAdd, Nat.reduceSub, Nat.reduceMul, reduceCtorEq, Nat.reduceLeDiff, e7, e8, e9, e0, Int.lt_irrefl]
    rw [List.take_length]

theorem least_use {h : H} {x : V} {l : List Int} (hx : SlAt h x 1 (l.map encI)) {n : Int} {Q : V → H → Prop} (q : Q (.int .i64 (l.foldl min n)) h) : Ev fnG fastA (.fn 131 [] []) [.int .i64 n, x] h Q := by
  rw [least_ev hx]; exact q
def sayLo (m : Ml) (w : Wg) : Int := (100 * max 0 (w.reads - m.errs) + (100 + w.hi) - 1).tdiv (100 + w.hi)
def sayHi (m : Ml) (w : Wg) : Int := min 10000 ((100 * (w.reads + m.errs)).tdiv (100 + w.lo))
theorem tdiv_le {a b : Int} (ha : 0 ≤ a) (hb : 1 ≤ b) : 0 ≤ a.tdiv b ∧ a.tdiv b ≤ a := by
  rw [Int.tdiv_eq_ediv_of_nonneg ha]
  exact ⟨Int.ediv_nonneg ha (by omega), Int.ediv_le_self _ ha⟩
theorem says_ev {h : H} {d : Nat} {m : Ml} (hw : h.wf) (hd : DkAt h d m) (g : Good m) {i : Nat} (hi : i < m.wgs.length) : Ev fnG fastA (.fn 94 [] []) [.ptr d 0, .int .i64 (i : Int)] h fun v h' =>
    v = .agg [.int .i64 (sayLo m m.wgs[i]), .int .i64 (sayHi m m.wgs[i])] ∧ h.Sub h' := by
  obtain ⟨pm, l, L, W, g1, g2, aL, aW, ap⟩ := hd
  have hld := hw d _ g1
  obtain ⟨b, o, c, cs, rfl, hc, hq, hg, hn, hn0⟩ := aW.at hi
  have hlb : b < h.next := by obtain ⟨k, hk⟩ := H.cells_eq hc; exact hw b _ hk
  have w1 := g.wg _ (List.getElem_mem hi)
  have w2 := g.errs
  refine Ev_body (fd := c94) rfl rfl rfl ?_
  have q1 := tdiv_le (a := 100 * max 0 (m.wgs[i].reads - m.errs) + (100 + m.wgs[i].hi) - 1) (b := 100 + m.wgs[i].hi) (by omega) (by omega)
  have q2 := tdiv_le (a := 100 * (m.wgs[i].reads + m.errs)) (b := 100 + m.wgs[i].lo) (by omega) (by omega)
  simp (maxSteps := 1000000) (implicitDefEqProofs := false) (disch := (first | with_reducible rfl | omega | (simp only [H.next_add, H.next_set, H.next_del]; done) | (simp only [H.next_add, H.next_set, H.next_del]; omega) | fail)) only [c94, go_sem, ↓reduceIte, Nat.reduceEqDiff, Nat.reduceAdd, Nat.reduceSub, Nat.reduceMul, reduceCtorEq, Nat.reduceLeDiff, cells_of g1, hq (nat_cst i), hc, hg, encW, wr_in, q_ar_quo]
  refine least_use (l := [(100 * (m.wgs[i].reads + m.errs)).tdiv (100 + m.wgs[i].lo)]) (SlAt.new _ (by simp only [H.next_add]) (by rfl) (by rfl) (by simp [encI]) (by simp)) ?_
  simp (maxSteps := 1000000) (implicitDefEqProofs := false) (disch := (first | with_reducible rfl | omega | (simp only [H.next_add, H.next_set, H.next_del]; done) | (simp only [H.next_add, H.next_set, H.next_del]; omega) | fail)) only [go_sem, ↓reduceIte, Nat.reduceEqDiff, Nat.reduceAdd, Nat.reduceSub, Nat.reduceMul, reduceCtorEq, Nat.reduceLeDiff, cells_of g1, List.foldl]
  exact ⟨rfl, (by repeat (first | assumption | exact H.Sub.refl (by assumption) | refine H.Sub.add ?_ _ | refine H.Sub.set ?_ (by first | omega | (simp only [H.next_add, H.next_set, H.next_del] <;> omega)) (by first | omega | (simp only [H.next_add, H.next_set, H.next_del] <;> omega)) (by assumption) _))⟩
end Go.Ab.Try
set_option linter.unusedSimpArgs false
set_option linter.unusedVariables false
namespace Go.Ab
theorem SlAt.elems {h : H} {x : V} {sz : Nat} {rows : List (List V)} (a : SlAt h x sz rows) : elems h sz x = some rows.flatten ∧ lenV x = some rows.length := by
  rcases a.2.2 with ⟨rfl, rfl⟩ | ⟨b, o, c, cs, rfl, h2, h3⟩
  · exact ⟨rfl, rfl⟩
  · refine ⟨?_, rfl⟩
    cases hn : rows.length with
    | zero =>
      have : rows = [] := List.length_eq_zero_iff.1 hn
      subst this; rfl
    | succ k => rw [elems_s, h2, elC_some, ← hn]; exact h3
theorem a_msl_0n {h : H} {by_ n : Nat} {z : List V} (h1 : n * by_ ≤ 1099511627776) (h2 : n ≤ 1099511627776) :
    a_msl h by_ z (.int .i64 0) (.int .i64 (n : Int)) = some (.sl h.next 0 0 (.fix n), h.add (.cells .rw (repN n z))) := by
  have e1 : Nat.ble (n * by_) 1099511627776 = true := by simpa using h1
  have e2 : Nat.ble n 1099511627776 = true := by simpa using h2
  have e3 : Nat.ble 0 n = true := by simp
  simp only [a_msl, nat_zero, nat_cst, e1, e2, e3, og_true, lf_eq]
theorem repN_len (z : List V) : ∀ n, (repN n z).length = n * z.length
  | 0 => by simp [repN]
  | n + 1 => by rw [repN, appN_eq, List.length_append, repN_len z n, Nat.add_mul]; omega
theorem Ev.gen {Fn : Nat → Option FD} {fast : Nat → Option (List V → H → Option (V × H))} {fv : V} {args : List V} {h : H} {R : V → H → Prop} (f : ∀ Q : V → H → Prop, (∀ u h', R u h' → Q u h') → Ev Fn fast fv args h Q) : Ev Fn fast fv args h R :=
  f R fun _ _ h => h
theorem dup_core {h : H} {x : V} {sz by_ : Nat} {rows : List (List V)} {z : List V} (hx : SlAt h x sz rows) (hw : h.wf) (hz : z.length = sz) (hsz : 0 < sz) (ho : allOne rows.flatten = true) :
    e_app' (h.add (.cells .rw (repN rows.length z))) sz by_ (.sl h.next 0 0 (.fix rows.length)) x = some (.sl h.next 0 rows.length (.fix rows.length), h.add (.cells .rw rows.flatten)) := by
  have hx1 := (hx.mono ((H.Sub.refl hw).add (.cells .rw (repN rows.length z)))).elems
  rw [e_app_eq, hx1.1, hx1.2]
  simp only [ob_some]
  cases hn : rows.length with
  | zero =>
    have : rows = [] := List.length_eq_zero_iff.1 hn
    subst this
    rw [e_app_fix0]
    rfl
  | succ k =>
    rw [e_app_fix (by omega), Nat.zero_mul, Nat.zero_add, Nat.zero_add]
    have hl := flatten_len hx.1
    obtain ⟨v, vs, hv⟩ : ∃ v vs, rows.flatten = v :: vs := by
      cases e : rows.flatten with
      | nil => rw [e, hn] at hl; simp at hl; rw [Nat.mul_comm] at hl; have := Nat.le_mul_of_pos_right (k + 1) hsz; rw [Nat.mul_comm] at this; omega
      | cons v vs => exact ⟨v, vs, rfl⟩
    have hp : putN 0 rows.flatten (repN (k + 1) z) = some rows.flatten := by
      rw [putN_0]
      refine over_eq.2 ⟨?_, ?_⟩
      · rw [List.drop_of_length_le (by rw [repN_len, hl, hz, hn]; exact Nat.le_refl _), List.append_nil]
      · rw [repN_len, hl, hz, hn]; exact Nat.le_refl _
    rw [hv] at ho hp ⊢
    rw [H.put_rw ho (get_add_new rfl) hp, withV_some, set_add_same rfl]
end Go.Ab
namespace Go.Ab.Try
theorem allOne_flat {α : Type} {enc : α → List V} (h : ∀ a, allOne (enc a) = true) (l : List α) : allOne (l.map enc).flatten = true := by
  rw [allOne_eq]
  intro v hv
  obtain ⟨r, hr, hvr⟩ := List.mem_flatten.1 hv
  obtain ⟨a, _, rfl⟩ := List.mem_map.1 hr
  exact allOne_eq.1 (h a) v hvr
theorem dupLot_ev {h : H} {x : V} {l : List Lt} (hw : h.wf) (hx : SlAt h x 2 (l.map encL)) (hl : l.length ≤ 1000000) (Q : V → H → Prop) :
    Ev fnG fastA (.fn 73 [] []) [x] h Q = Q (.sl h.next 0 l.length (.fix l.length)) (h.add (.cells .rw (l.map encL).flatten)) := by
  refine Ev.det (Ev_body (fd := c73) rfl rfl rfl ?_) Q
  simp (maxSteps := 1000000) (implicitDefEqProofs := false) (disch := (first | with_reducible rfl | omega | (simp only [H.next_add, H.next_set, H.next_del]; done) | (simp only [H.next_add, H.next_set, H.next_del]; omega) | fail)) only [c73, go_sem, ↓reduceIte, Nat.reduceEqDiff, Nat.reduceAdd, Nat.reduceSub, Nat.reduceMul, reduceCtorEq, Nat.reduceLeDiff, hx.lenE, a_msl_0n]
  have := dup_core (by_ := 16) (z := [.int .i64 0, .int .i64 0]) hx hw rfl (by omega) (allOne_flat (fun a => rfl) l)
  rw [List.length_map] at this
  simp (maxSteps := 1000000) (implicitDefEqProofs := false) (disch := (first | with_reducible rfl | omega | (simp only [H.next_add, H.next_set, H.next_del]; done) | (simp only [H.next_add, H.next_set, H.next_del]; omega) | fail)) only [go_sem, ↓reduceIte, Nat.reduceEqDiff, Nat.reduceAdd, Nat.reduceSub, Nat.reduceMul, reduceCtorEq, Nat.reduceLeDiff, this]
theorem dupWg_ev {h : H} {x : V} {l : List Wg} (hw : h.wf) (hx : SlAt h x 4 (l.map encW)) (hl : l.length ≤ 1000000) (Q : V → H → Prop) :
    Ev fnG fastA (.fn 74 [] []) [x] h Q = Q (.sl h.next 0 l.length (.fix l.length)) (h.add (.cells .rw (l.map encW).flatten)) := by
  refine Ev.det (Ev_body (fd := c74) rfl rfl rfl ?_) Q
  simp (maxSteps := 1000000) (implicitDefEqProofs := false) (disch := (first | with_reducible rfl | omega | (simp only [H.next_add, H.next_set, H.next_del]; done) | (simp only [H.next_add, H.next_set, H.next_del]; omega) | fail)) only [c74, go_sem, ↓reduceIte, Nat.reduceEqDiff, Nat.reduceAdd, Nat.reduceSub, Nat.reduceMul, reduceCtorEq, Nat.reduceLeDiff, hx.lenE, a_msl_0n]
  have := dup_core (by_ := 32) (z := [.int .i64 0, .int .i64 0, .int .i64 0, .int .i64 0]) hx hw rfl (by omega) (allOne_flat (fun a => rfl) l)
  rw [List.length_map] at this
  simp (maxSteps := 1000000) (implicitDefEqProofs := false) (disch := (first | with_reducible rfl | omega | (simp only [H.next_add, H.next_set, H.next_del]; done) | (simp only [H.next_add, H.next_set, H.next_del]; omega) | fail)) only [go_sem, ↓reduceIte, Nat.reduceEqDiff, Nat.reduceAdd, Nat.reduceSub, Nat.reduceMul, reduceCtorEq, Nat.reduceLeDiff, this]
theorem dupInt_ev {h : H} {x : V} {l : List Int} (hw : h.wf) (hx : SlAt h x 1 (l.map encI)) (hl : l.length ≤ 1000000) (Q : V → H → Prop) :
    Ev fnG fastA (.fn 27 [] []) [x] h Q = Q (.sl h.next 0 l.length (.fix l.length)) (h.add (.cells .rw (l.map encI).flatten)) := by
  refine Ev.det (Ev_body (fd := c27) rfl rfl rfl ?_) Q
  simp (maxSteps := 1000000) (implicitDefEqProofs := false) (disch := (first | with_reducible rfl | omega | (simp only [H.next_add, H.next_set, H.next_del]; done) | (simp only [H.next_add, H.next_set, H.next_del]; omega) | fail)) only [c27, go_sem, ↓reduceIte, Nat.reduceEqDiff, Nat.reduceAdd, Nat.reduceSub, Nat.reduceMul, reduceCtorEq, Nat.reduceLeDiff, hx.lenE, a_msl_0n]
  have := dup_core (by_ := 8) (z := [.int .i64 0]) hx hw rfl (by omega) (allOne_flat (fun a => rfl) l)
  rw [List.length_map] at this
  simp (maxSteps := 1000000) (implicitDefEqProofs := false) (disch := (first | with_reducible rfl | omega | (simp only [H.next_add, H.next_set, H.next_del]; done) | (simp only [H.next_add, H.next_set, H.next_del]; omega) | fail)) only [go_sem, ↓reduceIte, Nat.reduceEqDiff, Nat.reduceAdd, Nat.reduceSub, Nat.reduceMul, reduceCtorEq, Nat.reduceLeDiff, this]
theorem dupKind_ev {h : H} {x : V} {l : List Int} (hw : h.wf) (hx : SlAt h x 1 (l.map encI)) (hl : l.length ≤ 1000000) (Q : V → H → Prop) :
    Ev fnG fastA (.fn 66 [] []) [x] h Q = Q (.sl h.next 0 l.length (.fix l.length)) (h.add (.cells .rw (l.map encI).flatten)) := by
  refine Ev.det (Ev_body (fd := c66) rfl rfl rfl ?_) Q
  simp (maxSteps := 1000000) (implicitDefEqProofs := false) (disch := (first | with_reducible rfl | omega | (simp only [H.next_add, H.next_set, H.next_del]; done) | (simp only [H.next_add, H.next_set, H.next_del]; omega) | fail)) only [c66, go_sem, ↓reduceIte, Nat.reduceEqDiff, Nat.reduceAdd, Nat.reduceSub, Nat.reduceMul, reduceCtorEq, Nat.reduceLeDiff, hx.lenE, a_msl_0n]
  have := dup_core (by_ := 8) (z := [.int .i64 0]) hx hw rfl (by omega) (allOne_flat (fun a => rfl) l)
  rw [List.length_map] at this
  simp (maxSteps := 1000000) (implicitDefEqProofs := false) (disch := (first | with_reducible rfl | omega | (simp only [H.next_add, H.next_set, H.next_del]; done) | (simp only [H.next_add, H.next_set, H.next_del]; omega) | fail)) only [go_sem, ↓reduceIte, Nat.reduceEqDiff, Nat.reduceAdd, Nat.reduceSub, Nat.reduceMul, reduceCtorEq, Nat.reduceLeDiff, this]
/-- Own: a mill that shares nothing. -/
theorem own_ev {h : H} {v : V} {m : Ml} (hw : h.wf) (hm : MlIs h v m) (hl : m.lots.length ≤ 1000 ∧ m.wgs.length ≤ 1000) : Ev fnG fastA (.fn 18 [] []) [v] h fun u h' => h.Sub h' ∧ ∃ a b, u = .agg [.int .i64 m.errs, .sl a 0 m.lots.length (.fix m.lots.length), .sl b 0 m.wgs.length (.fix m.wgs.length)] ∧
    h.next ≤ a ∧ a < h'.next ∧ h.next ≤ b ∧ b < h'.next ∧ a ≠ b ∧ h'.get a = some (.cells .rw (m.lots.map encL).flatten) ∧ h'.get b = some (.cells .rw (m.wgs.map encW).flatten) := by
  obtain ⟨L, W, rfl, aL, aW⟩ := hm
  refine Ev_body (fd := c18) rfl rfl rfl ?_
  have s2 : h.Sub ((h.add (.cells .rw [.int .i64 m.errs, L, W])).add (.cells .rw [.int .i64 0, .nils, .nils])) := (by repeat (first | assumption | exact H.Sub.refl (by assumption) | refine H.Sub.add ?_ _ | refine H.Sub.set ?_ (by first | omega | (simp only [H.next_add, H.next_set, H.next_del] <;> omega)) (by first | omega | (simp only [H.next_add, H.next_set, H.next_del] <;> omega)) (by assumption) _))
  have s3 := s2.add (.cells .rw (m.lots.map encL).flatten)
  have w2 := s2.wf
  have w3 := s3.wf
  simp (maxSteps := 1000000) (implicitDefEqProofs := false) (disch := (first | with_reducible rfl | omega | (simp only [H.next_add, H.next_set, H.next_del]; done) | (simp only [H.next_add, H.next_set, H.next_del]; omega) | fail)) only [c18, go_sem, ↓reduceIte, Nat.reduceEqDiff, Nat.reduceAdd, Nat.reduceSub, Nat.reduceMul, reduceCtorEq, Nat.reduceLeDiff, dupLot_ev w2 (aL.mono s2) (by omega), dupWg_ev w3 (aW.mono s3) (by omega), aL.lenE, aW.lenE]
  refine ⟨(by repeat (first | assumption | exact H.Sub.refl (by assumption) | refine H.Sub.add ?_ _ | refine H.Sub.set ?_ (by first | omega | (simp only [H.next_add, H.next_set, H.next_del] <;> omega)) (by first | omega | (simp only [H.next_add, H.next_set, H.next_del] <;> omega)) (by assumption) _)), h.next + 1 + 1, h.next + 1 + 1 + 1, rfl, by omega, by omega, by omega, by omega, by omega, ?_, ?_⟩
  · simp (maxSteps := 1000000) (implicitDefEqProofs := false) (disch := (first | with_reducible rfl | omega | (simp only [H.next_add, H.next_set, H.next_del]; done) | (simp only [H.next_add, H.next_set, H.next_del]; omega) | fail)) only [go_sem, ↓reduceIte, Nat.reduceEqDiff, Nat.reduceAdd, Nat.reduceSub, Nat.reduceMul, reduceCtorEq, Nat.reduceLeDiff]
  · simp (maxSteps := 1000000) (implicitDefEqProofs := false) (disch := (first | with_reducible rfl | omega | (simp only [H.next_add, H.next_set, H.next_del]; done) | (simp only [H.next_add, H.next_set, H.next_del]; omega) | fail)) only [go_sem, ↓reduceIte, Nat.reduceEqDiff, Nat.reduceAdd, Nat.reduceSub, Nat.reduceMul, reduceCtorEq, Nat.reduceLeDiff]
/-- What Own made is the mill. -/
theorem MlIs.own {h : H} {m : Ml} {a b : Nat} (hl : m.lots.length ≤ 1000 ∧ m.wgs.length ≤ 1000) (ha : h.get a = some (.cells .rw (m.lots.map encL).flatten)) (hb : h.get b = some (.cells .rw (m.wgs.map encW).flatten)) :
    MlIs h (.agg [.int .i64 m.errs, .sl a 0 m.lots.length (.fix m.lots.length), .sl b 0 m.wgs.length (.fix m.wgs.length)]) m := by
  have f1 : ∀ r ∈ m.lots.map encL, r.length = 2 := by simp [encL]
  have f2 : ∀ r ∈ m.wgs.map encW, r.length = 4 := by simp [encW]
  refine ⟨_, _, rfl, ⟨f1, by simp; omega, .inr ⟨a, 0, .fix m.lots.length, _, by simp, cells_of ha, getN_eq.2 ⟨?_, ?_⟩⟩⟩, ⟨f2, by simp; omega, .inr ⟨b, 0, .fix m.wgs.length, _, by simp, cells_of hb, getN_eq.2 ⟨?_, ?_⟩⟩⟩⟩
  · rw [List.drop_zero, ← flatten_len f1, List.take_length]
  · rw [flatten_len f1]; omega
  · rw [List.drop_zero, ← flatten_len f2, List.take_length]
  · rw [flatten_len f2]; omega
/-- right: whether a weighing is true for a weight, of numbers that are not too great. -/
def rightM (errs : Int) (w : Wg) (n : Int) : Bool := decide (100 * (w.reads - errs) ≤ n * (100 + w.hi)) && decide (n * (100 + w.lo) ≤ 100 * (w.reads + errs))
theorem right_ev {h : H} {L W : V} {e : Int} {w : Wg} {n : Int} (h1 : 0 ≤ e ∧ e ≤ 1000000) (h2 : -1000000 ≤ w.reads ∧ w.reads ≤ 1000000) (h3 : 0 ≤ w.lo ∧ w.lo ≤ 1000) (h4 : 0 ≤ w.hi ∧ w.hi ≤ 1000) (h5 : -1000000 ≤ n ∧ n ≤ 1000000) (Q : V → H → Prop) :
    Ev fnG fastA (.fn 42 [] []) [.agg [.int .i64 e, L, W], .agg (encW w), .int .i64 n] h Q = Q (.bool (rightM e w n)) ((h.add (.cells .rw [.int .i64 e, L, W])).add (.cells .rw (encW w))) := by
  refine Ev.det (Ev_body (fd := c42) rfl rfl rfl ?_) Q
  have m1 : -1100000000 ≤ n * (100 + w.hi) ∧ n * (100 + w.hi) ≤ 1100000000 := by
    constructor
    · have := Int.mul_le_mul_of_nonneg_right h5.1 (show 0 ≤ 100 + w.hi by omega); omega
    · have := Int.mul_le_mul_of_nonneg_right h5.2 (show 0 ≤ 100 + w.hi by omega); omega
  have m2 : -1100000000 ≤ n * (100 + w.lo) ∧ n * (100 + w.lo) ≤ 1100000000 := by
    constructor
    · have := Int.mul_le_mul_of_nonneg_right h5.1 (show 0 ≤ 100 + w.lo by omega); omega
    · have := Int.mul_le_mul_of_nonneg_right h5.2 (show 0 ≤ 100 + w.lo by omega); omega
  by_cases c : 100 * (w.reads - e) ≤ n * (100 + w.hi)
  · simp (maxSteps := 1000000) (implicitDefEqProofs := false) (disch := (first | with_reducible rfl | omega | (simp only [H.next_add, H.next_set, H.next_del]; done) | (simp only [H.next_add, H.next_set, H.next_del]; omega) | fail)) only [c42, go_sem, ↓reduceIte, Nat.reduceEqDiff, Nat.reduceAdd, Nat.reduceSub, Nat.reduceMul, reduceCtorEq, Nat.reduceLeDiff, encW, wr_in, c, rightM]
  · simp (maxSteps := 1000000) (implicitDefEqProofs := false) (disch := (first | with_reducible rfl | omega | (simp only [H.next_add, H.next_set, H.next_del]; done) | (simp only [H.next_add, H.next_set, H.next_del]; omega) | fail)) only [c42, go_sem, ↓reduceIte, Nat.reduceEqDiff, Nat.reduceAdd, Nat.reduceSub, Nat.reduceMul, reduceCtorEq, Nat.reduceLeDiff, encW, wr_in, c, rightM, Bool.false_and]
/-- Says. -/
theorem Says_ev {h : H} {v : V} {m : Ml} (hw : h.wf) (hm : MlIs h v m) (n : Int) : Ev fnG fastA (.fn 41 [] []) [v, .int .i64 n] h fun u h' => h.Sub h' ∧ ∃ lo hi e, u = .tup [.agg [.int .i64 lo, .int .i64 hi], .int .i64 e] ∧
    ((check m ≠ 0 ∧ e = check m ∧ lo = 0 ∧ hi = 0) ∨ (check m = 0 ∧ ¬ (0 ≤ n ∧ n ≤ (m.wgs.length : Int) - 1) ∧ e = 1 ∧ lo = 0 ∧ hi = 0) ∨
     (check m = 0 ∧ ∃ i : Nat, ∃ hi' : i < m.wgs.length, n = (i : Int) ∧ ((sayHi m m.wgs[i] < sayLo m m.wgs[i] ∧ e = 6 ∧ lo = 0 ∧ hi = 0) ∨ (sayLo m m.wgs[i] ≤ sayHi m m.wgs[i] ∧ e = 0 ∧ lo = sayLo m m.wgs[i] ∧ hi = sayHi m m.wgs[i])))) := by
  refine Ev.gen fun Q q => ?_
  have hm0 := hm
  obtain ⟨L, W, rfl, aL, aW⟩ := hm
  refine Ev_body (fd := c41) rfl rfl rfl ?_
  have s2 : h.Sub ((h.add (.cells .rw [.int .i64 m.errs, L, W])).add (.cells .rw [.int .i64 0, .int .i64 0])) := (by repeat (first | assumption | exact H.Sub.refl (by assumption) | refine H.Sub.add ?_ _ | refine H.Sub.set ?_ (by first | omega | (simp only [H.next_add, H.next_set, H.next_del] <;> omega)) (by first | omega | (simp only [H.next_add, H.next_set, H.next_del] <;> omega)) (by assumption) _))
  have w2 := s2.wf
  simp (maxSteps := 1000000) (implicitDefEqProofs := false) (disch := (first | with_reducible rfl | omega | (simp only [H.next_add, H.next_set, H.next_del]; done) | (simp only [H.next_add, H.next_set, H.next_del]; omega) | fail)) only [c41, go_sem, ↓reduceIte, Nat.reduceEqDiff, Nat.reduceAdd, Nat.reduceSub, Nat.reduceMul, reduceCtorEq, Nat.reduceLeDiff]
  refine (opened_dk w2 (hm0.mono s2)).mono fun u h3 hu => ?_
  obtain ⟨s23, hu⟩ := hu
  have l3 := s23.next
  simp only [H.next_add] at l3
  have s3 := s2.trans s23
  have g1 : h3.cells h.next = some [.int .i64 m.errs, L, W] := s23.cells (by simp (maxSteps := 1000000) (implicitDefEqProofs := false) (disch := (first | with_reducible rfl | omega | (simp only [H.next_add, H.next_set, H.next_del]; done) | (simp only [H.next_add, H.next_set, H.next_del]; omega) | fail)) only [go_sem, ↓reduceIte, Nat.reduceEqDiff, Nat.reduceAdd, Nat.reduceSub, Nat.reduceMul, reduceCtorEq, Nat.reduceLeDiff])
  have g2 : h3.get (h.next + 1) = some (.cells .rw [.int .i64 0, .int .i64 0]) := s23.get (by simp (maxSteps := 1000000) (implicitDefEqProofs := false) (disch := (first | with_reducible rfl | omega | (simp only [H.next_add, H.next_set, H.next_del]; done) | (simp only [H.next_add, H.next_set, H.next_del]; omega) | fail)) only [go_sem, ↓reduceIte, Nat.reduceEqDiff, Nat.reduceAdd, Nat.reduceSub, Nat.reduceMul, reduceCtorEq, Nat.reduceLeDiff])
  rcases hu with ⟨c, rfl⟩ | ⟨c, d, rfl, hd⟩
  · simp (maxSteps := 1000000) (implicitDefEqProofs := false) (disch := (first | with_reducible rfl | omega | (simp only [H.next_add, H.next_set, H.next_del]; done) | (simp only [H.next_add, H.next_set, H.next_del]; omega) | fail)) only [go_sem, ↓reduceIte, Nat.reduceEqDiff, Nat.reduceAdd, Nat.reduceSub, Nat.reduceMul, reduceCtorEq, Nat.reduceLeDiff, c, ne_eq, not_false_eq_true, g1, g2]
    exact q _ _ ⟨(by repeat (first | assumption | exact H.Sub.refl (by assumption) | refine H.Sub.add ?_ _ | refine H.Sub.set ?_ (by first | omega | (simp only [H.next_add, H.next_set, H.next_del] <;> omega)) (by first | omega | (simp only [H.next_add, H.next_set, H.next_del] <;> omega)) (by assumption) _)), 0, 0, check m, rfl, .inl ⟨c, rfl, rfl, rfl⟩⟩
  simp (maxSteps := 1000000) (implicitDefEqProofs := false) (disch := (first | with_reducible rfl | omega | (simp only [H.next_add, H.next_set, H.next_del]; done) | (simp only [H.next_add, H.next_set, H.next_del]; omega) | fail)) only [go_sem, ↓reduceIte, Nat.reduceEqDiff, Nat.reduceAdd, Nat.reduceSub, Nat.reduceMul, reduceCtorEq, Nat.reduceLeDiff, ne_eq, not_true_eq_false, g1, g2]
  refine weighing_ev (hm0.mono s3) n _ (fun h4 s34 => ?_) s3.wf
  have l4 := s34.next
  have s4 := s3.trans s34
  have g4 := s34.get g2
  cases hn : inB n 0 ((m.wgs.length : Int) - 1)
  · simp (maxSteps := 1000000) (implicitDefEqProofs := false) (disch := (first | with_reducible rfl | omega | (simp only [H.next_add, H.next_set, H.next_del]; done) | (simp only [H.next_add, H.next_set, H.next_del]; omega) | fail)) only [go_sem, ↓reduceIte, Nat.reduceEqDiff, Nat.reduceAdd, Nat.reduceSub, Nat.reduceMul, reduceCtorEq, Nat.reduceLeDiff, g4]
    refine q _ _ ⟨(by repeat (first | assumption | exact H.Sub.refl (by assumption) | refine H.Sub.add ?_ _ | refine H.Sub.set ?_ (by first | omega | (simp only [H.next_add, H.next_set, H.next_del] <;> omega)) (by first | omega | (simp only [H.next_add, H.next_set, H.next_del] <;> omega)) (by assumption) _)), 0, 0, 1, rfl, .inr (.inl ⟨c, by simpa [inB] using hn, rfl, rfl, rfl⟩)⟩
  simp only [inB, decide_eq_true_eq] at hn
  obtain ⟨i, rfl⟩ := Int.eq_ofNat_of_zero_le hn.1
  have hi : i < m.wgs.length := by omega
  simp (maxSteps := 1000000) (implicitDefEqProofs := false) (disch := (first | with_reducible rfl | omega | (simp only [H.next_add, H.next_set, H.next_del]; done) | (simp only [H.next_add, H.next_set, H.next_del]; omega) | fail)) only [go_sem, ↓reduceIte, Nat.reduceEqDiff, Nat.reduceAdd, Nat.reduceSub, Nat.reduceMul, reduceCtorEq, Nat.reduceLeDiff]
  refine (says_ev s4.wf (hd.mono s34) (good_of c) hi).mono fun u h5 hu => ?_
  obtain ⟨rfl, s45⟩ := hu
  have l5 := s45.next
  have s5 := s4.trans s45
  have g5 := s45.get g4
  by_cases c2 : sayHi m m.wgs[i] < sayLo m m.wgs[i]
  · simp (maxSteps := 1000000) (implicitDefEqProofs := false) (disch := (first | with_reducible rfl | omega | (simp only [H.next_add, H.next_set, H.next_del]; done) | (simp only [H.next_add, H.next_set, H.next_del]; omega) | fail)) only [go_sem, ↓reduceIte, Nat.reduceEqDiff, Nat.reduceAdd, Nat.reduceSub, Nat.reduceMul, reduceCtorEq, Nat.reduceLeDiff, g5, c2]
    exact q _ _ ⟨(by repeat (first | assumption | exact H.Sub.refl (by assumption) | refine H.Sub.add ?_ _ | refine H.Sub.set ?_ (by first | omega | (simp only [H.next_add, H.next_set, H.next_del] <;> omega)) (by first | omega | (simp only [H.next_add, H.next_set, H.next_del] <;> omega)) (by assumption) _)), 0, 0, 6, rfl, .inr (.inr ⟨c, i, hi, rfl, .inl ⟨c2, rfl, rfl, rfl⟩⟩)⟩
  · simp (maxSteps := 1000000) (implicitDefEqProofs := false) (disch := (first | with_reducible rfl | omega | (simp only [H.next_add, H.next_set, H.next_del]; done) | (simp only [H.next_add, H.next_set, H.next_del]; omega) | fail)) only [go_sem, ↓reduceIte, Nat.reduceEqDiff, Nat.reduceAdd, Nat.reduceSub, Nat.reduceMul, reduceCtorEq, Nat.reduceLeDiff, g5, c2]
    exact q _ _ ⟨(by repeat (first | assumption | exact H.Sub.refl (by assumption) | refine H.Sub.add ?_ _ | refine H.Sub.set ?_ (by first | omega | (simp only [H.next_add, H.next_set, H.next_del] <;> omega)) (by first | omega | (simp only [H.next_add, H.next_set, H.next_del] <;> omega)) (by assumption) _)), _, _, 0, rfl, .inr (.inr ⟨c, i, hi, rfl, .inr ⟨by omega, rfl, rfl, rfl⟩⟩)⟩
end Go.Ab.Try
set_option linter.unusedSimpArgs false
set_option linter.unusedVariables false
namespace Go.Ab.Try
theorem sayLo_le {m : Ml} {w : Wg} {k : Int} (hk : 0 ≤ k) (h4 : 0 ≤ w.hi) : sayLo m w ≤ k ↔ 100 * (w.reads - m.errs) ≤ k * (100 + w.hi) := by
  unfold sayLo
  have hD : 0 < 100 + w.hi := by omega
  have hn : 0 ≤ 100 * max 0 (w.reads - m.errs) + (100 + w.hi) - 1 := by omega
  have hkD : 0 ≤ k * (100 + w.hi) := Int.mul_nonneg hk (by omega)
  rw [Int.tdiv_eq_ediv_of_nonneg hn]
  have e : (k + 1) * (100 + w.hi) = k * (100 + w.hi) + (100 + w.hi) := by rw [Int.add_mul, Int.one_mul]
  constructor
  · intro h
    have : (100 * max 0 (w.reads - m.errs) + (100 + w.hi) - 1) / (100 + w.hi) < k + 1 := by omega
    rw [Int.ediv_lt_iff_lt_mul hD, e] at this
    omega
  · intro h
    have : (100 * max 0 (w.reads - m.errs) + (100 + w.hi) - 1) / (100 + w.hi) < k + 1 := by
      rw [Int.ediv_lt_iff_lt_mul hD, e]; omega
    omega
theorem le_sayHi {m : Ml} {w : Wg} {k : Int} (hk : k ≤ 10000) (h3 : 0 ≤ w.lo) (h5 : 0 ≤ w.reads + m.errs) : k ≤ sayHi m w ↔ k * (100 + w.lo) ≤ 100 * (w.reads + m.errs) := by
  unfold sayHi
  have hD : 0 < 100 + w.lo := by omega
  rw [Int.tdiv_eq_ediv_of_nonneg (by omega)]
  rw [← Int.le_ediv_iff_mul_le hD]
  omega
theorem sayLo_nonneg {m : Ml} {w : Wg} (h4 : 0 ≤ w.hi) : 0 ≤ sayLo m w := by
  unfold sayLo
  exact (tdiv_le (by omega) (by omega)).1
theorem sayHi_bounds {m : Ml} {w : Wg} (h3 : 0 ≤ w.lo) (h5 : 0 ≤ w.reads + m.errs) : 0 ≤ sayHi m w ∧ sayHi m w ≤ 10000 := by
  unfold sayHi
  have := (tdiv_le (a := 100 * (w.reads + m.errs)) (b := 100 + w.lo) (by omega) (by omega)).1
  omega
theorem right_iff {m : Ml} {w : Wg} {k : Int} (h3 : 0 ≤ w.lo) (h4 : 0 ≤ w.hi) (h5 : 0 ≤ w.reads + m.errs) (hk : 0 ≤ k ∧ k ≤ 10000) : rightM m.errs w k = decide (sayLo m w ≤ k ∧ k ≤ sayHi m w) := by
  unfold rightM
  rw [Bool.eq_iff_iff]
  simp only [Bool.and_eq_true, decide_eq_true_eq, sayLo_le hk.1 h4, le_sayHi hk.2 h3 h5]
/-- With more dampness, at both ends, it says no more. -/
theorem damp_less {e r lo hi by_ : Int} {x : Int} (he : 0 ≤ e) (hr : 0 ≤ r) (h3 : 0 ≤ lo) (h4 : 0 ≤ hi) (hb : 0 ≤ by_) (L : List Lt) (W W' : List Wg) :
    sayLo ⟨e, L, W'⟩ ⟨x, r, lo + by_, hi + by_⟩ ≤ sayLo ⟨e, L, W⟩ ⟨x, r, lo, hi⟩ ∧ sayHi ⟨e, L, W'⟩ ⟨x, r, lo + by_, hi + by_⟩ ≤ sayHi ⟨e, L, W⟩ ⟨x, r, lo, hi⟩ := by
  have n1 : 0 ≤ sayLo ⟨e, L, W⟩ ⟨x, r, lo, hi⟩ := sayLo_nonneg h4
  have n2 := sayHi_bounds (m := ⟨e, L, W'⟩) (w := ⟨x, r, lo + by_, hi + by_⟩) (by show 0 ≤ lo + by_; omega) (by show 0 ≤ r + e; omega)
  constructor
  · rw [sayLo_le n1 (by show 0 ≤ hi + by_; omega)]
    have h1 := (sayLo_le (m := ⟨e, L, W⟩) (w := ⟨x, r, lo, hi⟩) n1 h4).1 (Int.le_refl _)
    have h2 := Int.mul_le_mul_of_nonneg_left (show 100 + hi ≤ 100 + (hi + by_) by omega) n1
    simp only at h1 h2 ⊢
    omega
  · rw [le_sayHi n2.2 h3 (by show 0 ≤ r + e; omega)]
    have h1 := (le_sayHi (m := ⟨e, L, W'⟩) (w := ⟨x, r, lo + by_, hi + by_⟩) n2.2 (by show 0 ≤ lo + by_; omega) (by show 0 ≤ r + e; omega)).1 (Int.le_refl _)
    have h2 := Int.mul_le_mul_of_nonneg_left (show 100 + lo ≤ 100 + (lo + by_) by omega) n2.1
    simp only at h1 h2 ⊢
    omega
/-- With scales that err by more it says no less. -/
theorem errs_more {e r lo hi f : Int} {x : Int} (he : 0 ≤ e) (hr : 0 ≤ r) (h3 : 0 ≤ lo) (h4 : 0 ≤ hi) (hb : e ≤ f) (L : List Lt) (W W' : List Wg) :
    sayLo ⟨f, L, W'⟩ ⟨x, r, lo, hi⟩ ≤ sayLo ⟨e, L, W⟩ ⟨x, r, lo, hi⟩ ∧ sayHi ⟨e, L, W⟩ ⟨x, r, lo, hi⟩ ≤ sayHi ⟨f, L, W'⟩ ⟨x, r, lo, hi⟩ := by
  have n1 : 0 ≤ sayLo ⟨e, L, W⟩ ⟨x, r, lo, hi⟩ := sayLo_nonneg h4
  have n2 := sayHi_bounds (m := ⟨e, L, W⟩) (w := ⟨x, r, lo, hi⟩) h3 (by show 0 ≤ r + e; omega)
  constructor
  · rw [sayLo_le n1 h4]
    have h1 := (sayLo_le (m := ⟨e, L, W⟩) (w := ⟨x, r, lo, hi⟩) n1 h4).1 (Int.le_refl _)
    simp only at h1 ⊢
    omega
  · rw [le_sayHi n2.2 h3 (by show 0 ≤ r + f; omega)]
    have h1 := (le_sayHi (m := ⟨e, L, W⟩) (w := ⟨x, r, lo, hi⟩) n2.2 h3 (by show 0 ≤ r + e; omega)).1 (Int.le_refl _)
    simp only at h1 ⊢
    omega
theorem awake_eq (h : H) (Q : V → H → Prop) : Ev fnG fastA (.fn 17 [] []) [] h Q = Q (.bool true) h := Ev.det ⟨1, .bool true, h, rfl, rfl, rfl⟩ Q
theorem check_one {e r lo hi : Int} (he : 0 ≤ e ∧ e ≤ 50) (hr : 0 ≤ r ∧ r ≤ 10000) (hl : 0 ≤ lo ∧ lo ≤ hi) (hh : hi ≤ 60) : check ⟨e, [⟨-1, 0⟩], [⟨0, r, lo, hi⟩]⟩ = 0 := by
  have a1 : List.all [(⟨0, r, lo, hi⟩ : Wg)] boundedW = true := by simp [boundedW]; omega
  have a2 : (List.all [(⟨-1, 0⟩ : Lt)] fun l => allowedK l.kind) = true := by simp [allowedK]
  have a3 : fromsOk [⟨-1, 0⟩] 0 = true := by simp [fromsOk]
  have a4 : (List.all [(⟨0, r, lo, hi⟩ : Wg)] fun w => inB w.lot 0 (((1 : Nat) : Int) - 1)) = true := by simp [inB]
  have a5 : (List.all [(⟨0, r, lo, hi⟩ : Wg)] fun w => decide (w.lo ≤ w.hi)) = true := by simp; omega
  unfold check
  simp only [List.length_singleton, a1, a2, a3, a4, a5]
  simp [he]
theorem tmod_b {a b : Int} (ha : 0 ≤ a) (hb : 0 < b) : 0 ≤ a.tmod b ∧ a.tmod b < b := by
  rw [Int.tmod_eq_emod_of_nonneg ha]
  exact ⟨Int.emod_nonneg _ (by omega), Int.emod_lt_of_pos _ hb⟩
theorem q_feq_2 (ng : Bool) (a b c d : Int) : q_feq ng 2 (.agg [.int .i64 a, .int .i64 b]) (.agg [.int .i64 c, .int .i64 d]) = some (.bool (ngB ng (decide (a = c ∧ b = d)))) := by
  have := q_feq_map (n := 2) [a, b] [c, d] rfl rfl ng
  simp only [List.map_cons, List.map_nil, iv, List.cons.injEq, and_true] at this
  exact this
theorem right_lit {h : H} {L W : V} {e lot reads lo hi n : Int} (h1 : 0 ≤ e ∧ e ≤ 1000000) (h2 : -1000000 ≤ reads ∧ reads ≤ 1000000) (h3 : 0 ≤ lo ∧ lo ≤ 1000) (h4 : 0 ≤ hi ∧ hi ≤ 1000) (h5 : -1000000 ≤ n ∧ n ≤ 1000000) (Q : V → H → Prop) :
    Ev fnG fastA (.fn 42 [] []) [.agg [.int .i64 e, L, W], .agg [.int .i64 lot, .int .i64 reads, .int .i64 lo, .int .i64 hi], .int .i64 n] h Q = Q (.bool (rightM e ⟨lot, reads, lo, hi⟩ n)) ((h.add (.cells .rw [.int .i64 e, L, W])).add (.cells .rw [.int .i64 lot, .int .i64 reads, .int .i64 lo, .int .i64 hi])) :=
  right_ev (w := ⟨lot, reads, lo, hi⟩) h1 h2 h3 h4 h5 Q
set_option maxHeartbeats 4000000 in
/-- SilkDamp is true. -/
theorem SilkDamp_ev {h : H} (hw : h.wf) {reads dry damp wide errs more : Int} (b0 : 0 ≤ reads ∧ reads ≤ 65535) (b1 : 0 ≤ dry ∧ dry ≤ 65535) (b2 : 0 ≤ damp ∧ damp ≤ 255) (b3 : 0 ≤ wide ∧ wide ≤ 255) (b4 : 0 ≤ errs ∧ errs ≤ 255) (b5 : 0 ≤ more ∧ more ≤ 255) :
    Ev fnG fastA (.fn 7 [] []) [.int .u16 reads, .int .u16 dry, .int .u8 damp, .int .u8 wide, .int .u8 errs, .int .u8 more] h fun v h' => v = .bool true := by
  refine Ev.gen fun Q q => ?_
  refine Ev_body (fd := c7) rfl rfl rfl ?_
  obtain ⟨lo, elo⟩ : ∃ lo, damp.tmod 61 = lo := ⟨_, rfl⟩
  obtain ⟨r, er⟩ : ∃ r, reads.tmod 10001 = r := ⟨_, rfl⟩
  obtain ⟨wd, ewd⟩ : ∃ wd, wide.tmod 20 = wd := ⟨_, rfl⟩
  obtain ⟨e, ee⟩ : ∃ e, errs.tmod 51 = e := ⟨_, rfl⟩
  obtain ⟨n, en⟩ : ∃ n, dry.tmod 10001 = n := ⟨_, rfl⟩
  obtain ⟨p, ep⟩ : ∃ p, more.tmod 9 = p := ⟨_, rfl⟩
  obtain ⟨p7, ep7⟩ : ∃ p7, more.tmod 7 = p7 := ⟨_, rfl⟩
  have k0 := tmod_b (b := 61) b2.1 (by omega); rw [elo] at k0
  have k1 := tmod_b (b := 10001) b0.1 (by omega); rw [er] at k1
  have k2 := tmod_b (b := 20) b3.1 (by omega); rw [ewd] at k2
  have k3 := tmod_b (b := 51) b4.1 (by omega); rw [ee] at k3
  have k4 := tmod_b (b := 10001) b1.1 (by omega); rw [en] at k4
  have k5 := tmod_b (b := 9) b5.1 (by omega); rw [ep] at k5
  have k6 := tmod_b (b := 7) b5.1 (by omega); rw [ep7] at k6
  obtain ⟨hi, ehi⟩ : ∃ hi, min 60 (lo + wd) = hi := ⟨_, rfl⟩
  have k7 : lo ≤ hi ∧ hi ≤ 60 := by omega
  simp (maxSteps := 1000000) (implicitDefEqProofs := false) (disch := (first | with_reducible rfl | omega | (simp only [H.next_add, H.next_set, H.next_del]; done) | (simp only [H.next_add, H.next_set, H.next_del]; omega) | fail)) only [c7, go_sem, ↓reduceIte, Nat.reduceEqDiff, Nat.reduceAdd, Nat.reduceSub, Nat.reduceMul, reduceCtorEq, Nat.reduceLeDiff, wr_in, q_ar_rem, elo, er, ewd, ee, ehi]
  have s4 : h.Sub ((((h.add (.cells .rw [.int .i64 0, .int .i64 r, .int .i64 lo, .int .i64 hi])).add (.cells .rw [.int .i64 (-1), .int .i64 0])).add (.cells .rw [.int .i64 0, .int .i64 r, .int .i64 lo, .int .i64 hi])).add
    (.cells .rw [.int .i64 e, .sl (h.next + 1) 0 1 (.fix 1), .sl (h.next + 1 + 1) 0 1 (.fix 1)])) := (by repeat (first | assumption | exact H.Sub.refl (by assumption) | refine H.Sub.add ?_ _ | refine H.Sub.set ?_ (by first | omega | (simp only [H.next_add, H.next_set, H.next_del] <;> omega)) (by first | omega | (simp only [H.next_add, H.next_set, H.next_del] <;> omega)) (by assumption) _))
  have hc0 := check_one (e := e) (r := r) (lo := lo) (hi := hi) (by omega) (by omega) (by omega) (by omega)
  refine (Says_ev (m := ⟨e, [⟨-1, 0⟩], [⟨0, r, lo, hi⟩]⟩) s4.wf (MlIs.own (by simp) (by simp (maxSteps := 1000000) (implicitDefEqProofs := false) (disch := (first | with_reducible rfl | omega | (simp only [H.next_add, H.next_set, H.next_del]; done) | (simp only [H.next_add, H.next_set, H.next_del]; omega) | fail)) only [go_sem, ↓reduceIte, Nat.reduceEqDiff, Nat.reduceAdd, Nat.reduceSub, Nat.reduceMul, reduceCtorEq, Nat.reduceLeDiff]; rfl) (by simp (maxSteps := 1000000) (implicitDefEqProofs := false) (disch := (first | with_reducible rfl | omega | (simp only [H.next_add, H.next_set, H.next_del]; done) | (simp only [H.next_add, H.next_set, H.next_del]; omega) | fail)) only [go_sem, ↓reduceIte, Nat.reduceEqDiff, Nat.reduceAdd, Nat.reduceSub, Nat.reduceMul, reduceCtorEq, Nat.reduceLeDiff]; rfl)) 0).mono fun u h5 hu => ?_
  obtain ⟨s45, lo', hi', e0, rfl, hu⟩ := hu
  have l5 := s45.next
  simp only [H.next_add] at l5
  have s5 := s4.trans s45
  have g14 : h5.cells h.next = some [.int .i64 0, .int .i64 r, .int .i64 lo, .int .i64 hi] := s45.cells (by simp (maxSteps := 1000000) (implicitDefEqProofs := false) (disch := (first | with_reducible rfl | omega | (simp only [H.next_add, H.next_set, H.next_del]; done) | (simp only [H.next_add, H.next_set, H.next_del]; omega) | fail)) only [go_sem, ↓reduceIte, Nat.reduceEqDiff, Nat.reduceAdd, Nat.reduceSub, Nat.reduceMul, reduceCtorEq, Nat.reduceLeDiff])
  have g15 : h5.cells (h.next + 1 + 1 + 1) = some [.int .i64 e, .sl (h.next + 1) 0 1 (.fix 1), .sl (h.next + 1 + 1) 0 1 (.fix 1)] := s45.cells (by simp (maxSteps := 1000000) (implicitDefEqProofs := false) (disch := (first | with_reducible rfl | omega | (simp only [H.next_add, H.next_set, H.next_del]; done) | (simp only [H.next_add, H.next_set, H.next_del]; omega) | fail)) only [go_sem, ↓reduceIte, Nat.reduceEqDiff, Nat.reduceAdd, Nat.reduceSub, Nat.reduceMul, reduceCtorEq, Nat.reduceLeDiff])
  rcases hu with ⟨c, _⟩ | ⟨_, c, _⟩ | ⟨_, i, hi0, ei, hu⟩
  · exact absurd hc0 c
  · exact absurd (by simp) c
  have ei0 : i = 0 := by omega
  subst ei0
  simp only [List.getElem_cons_zero] at hu
  have kX := sayLo_nonneg (m := ⟨e, [⟨-1, 0⟩], [⟨0, r, lo, hi⟩]⟩) (w := ⟨0, r, lo, hi⟩) (by show 0 ≤ hi; omega)
  have kY := sayHi_bounds (m := ⟨e, [⟨-1, 0⟩], [⟨0, r, lo, hi⟩]⟩) (w := ⟨0, r, lo, hi⟩) (by show 0 ≤ lo; omega) (by show 0 ≤ r + e; omega)
  have hright : ∀ k, 0 ≤ k ∧ k ≤ 10000 → rightM e ⟨0, r, lo, hi⟩ k = decide (sayLo ⟨e, [⟨-1, 0⟩], [⟨0, r, lo, hi⟩]⟩ ⟨0, r, lo, hi⟩ ≤ k ∧ k ≤ sayHi ⟨e, [⟨-1, 0⟩], [⟨0, r, lo, hi⟩]⟩ ⟨0, r, lo, hi⟩) := fun k hk =>
    right_iff (m := ⟨e, [⟨-1, 0⟩], [⟨0, r, lo, hi⟩]⟩) (by show 0 ≤ lo; omega) (by show 0 ≤ hi; omega) (by show 0 ≤ r + e; omega) hk
  have hless := fun (b : Int) (hb : 0 ≤ b) => damp_less (e := e) (r := r) (lo := lo) (hi := hi) (by_ := b) (x := 0) (by omega) (by omega) (by omega) (by omega) hb [⟨-1, 0⟩] [⟨0, r, lo, hi⟩] [⟨0, r, lo + b, hi + b⟩]
  have hmore := fun (f : Int) (hb : e ≤ f) => errs_more (e := e) (r := r) (lo := lo) (hi := hi) (f := f) (x := 0) (by omega) (by omega) (by omega) (by omega) hb [⟨-1, 0⟩] [⟨0, r, lo, hi⟩] [⟨0, r, lo, hi⟩]
  obtain ⟨X, eX⟩ : ∃ X, sayLo ⟨e, [⟨-1, 0⟩], [⟨0, r, lo, hi⟩]⟩ ⟨0, r, lo, hi⟩ = X := ⟨_, rfl⟩
  obtain ⟨Y, eY⟩ : ∃ Y, sayHi ⟨e, [⟨-1, 0⟩], [⟨0, r, lo, hi⟩]⟩ ⟨0, r, lo, hi⟩ = Y := ⟨_, rfl⟩
  rw [eX] at kX hu
  rw [eY] at kY hu
  simp only [eX, eY] at hright hless hmore
  rcases hu with ⟨cXY, rfl, rfl, rfl⟩ | ⟨cXY, rfl, rfl, rfl⟩
  · have hr := hright n (by omega)
    have hn : ¬ (X ≤ n ∧ n ≤ Y) := by omega
    simp only [hn, decide_false] at hr
    simp (maxSteps := 1000000) (implicitDefEqProofs := false) (disch := (first | with_reducible rfl | omega | (simp only [H.next_add, H.next_set, H.next_del]; done) | (simp only [H.next_add, H.next_set, H.next_del]; omega) | fail)) only [go_sem, ↓reduceIte, Nat.reduceEqDiff, Nat.reduceAdd, Nat.reduceSub, Nat.reduceMul, reduceCtorEq, Nat.reduceLeDiff, wr_in, q_ar_rem, en, ne_eq, not_false_eq_true, Int.reduceEq, g14, g15, q_feq_2, ngB, and_self, right_lit, hr, awake_eq]
    exact q _ _ rfl
  simp (maxSteps := 1000000) (implicitDefEqProofs := false) (disch := (first | with_reducible rfl | omega | (simp only [H.next_add, H.next_set, H.next_del]; done) | (simp only [H.next_add, H.next_set, H.next_del]; omega) | fail)) only [go_sem, ↓reduceIte, Nat.reduceEqDiff, Nat.reduceAdd, Nat.reduceSub, Nat.reduceMul, reduceCtorEq, Nat.reduceLeDiff, wr_in, q_ar_rem, en, ne_eq, not_true_eq_false, g14, g15]
  have s7 : h5.Sub ((h5.add (.cells .rw [.int .i64 lo', .int .i64 hi'])).add (.cells .rw [.int .i64 n, .int .i64 lo', .int .i64 hi', .int .i64 (lo' - 1), .int .i64 (hi' + 1)])) := ((H.Sub.refl s5.wf).add _).add _
  have aK : SlAt ((h5.add (.cells .rw [.int .i64 lo', .int .i64 hi'])).add (.cells .rw [.int .i64 n, .int .i64 lo', .int .i64 hi', .int .i64 (lo' - 1), .int .i64 (hi' + 1)])) (.sl (h5.next + 1) 0 5 (.fix 5)) 1 (([n, lo', hi', lo' - 1, hi' + 1] : List Int).map encI) :=
    SlAt.new _ (by simp only [H.next_add]) (by rfl) (by rfl) (by simp [encI]) (by simp)
  refine W_count 5 (fun i s => ∃ tm h', s = ⟨tm, h', []⟩ ∧ ((h5.add (.cells .rw [.int .i64 lo', .int .i64 hi'])).add (.cells .rw [.int .i64 n, .int .i64 lo', .int .i64 hi', .int .i64 (lo' - 1), .int .i64 (hi' + 1)])).Sub h' ∧
      (Opd.t 5).ev tm = .int .u8 more ∧ (Opd.t 13).ev tm = .int .i64 lo ∧ (Opd.t 14).ev tm = .ptr h.next 0 ∧ (Opd.t 15).ev tm = .ptr (h.next + 1 + 1 + 1) 0 ∧ (Opd.t 16).ev tm = .ptr h5.next 0 ∧
      (Opd.t 88).ev tm = .sl (h5.next + 1) 0 5 (.fix 5) ∧ (Opd.t 89).ev tm = .int .i64 5 ∧ (Opd.t 90).ev tm = .int .i64 (i : Int))
    ?_ ?_ (i := 0) (Nat.zero_le _) ⟨_, _, rfl, H.Sub.refl (s5.trans s7).wf, (by simp only [ev_c, ev_put, ↓reduceIte, Nat.reduceEqDiff] <;> rfl), (by simp only [ev_c, ev_put, ↓reduceIte, Nat.reduceEqDiff] <;> rfl), (by simp only [ev_c, ev_put, ↓reduceIte, Nat.reduceEqDiff] <;> rfl), (by simp only [ev_c, ev_put, ↓reduceIte, Nat.reduceEqDiff] <;> rfl), (by simp only [ev_c, ev_put, ↓reduceIte, Nat.reduceEqDiff] <;> rfl), (by simp only [ev_c, ev_put, ↓reduceIte, Nat.reduceEqDiff] <;> rfl), (by simp only [ev_c, ev_put, ↓reduceIte, Nat.reduceEqDiff] <;> rfl), (by simp only [ev_c, ev_put, ↓reduceIte, Nat.reduceEqDiff] <;> rfl)⟩
  · rintro i s hlt ⟨tm, h8, rfl, s78, e5, e13, e14, e15, e16, e88, e89, e90⟩
    have hi5 : (i : Int) < 5 := by omega
    have l8 := s78.next
    simp only [H.next_add] at l8
    have s58 := s7.trans s78
    have w14 := s58.cells g14
    have w15 := s58.cells g15
    have w16 : h8.cells h5.next = some [.int .i64 lo', .int .i64 hi'] := s78.cells (by simp (maxSteps := 1000000) (implicitDefEqProofs := false) (disch := (first | with_reducible rfl | omega | (simp only [H.next_add, H.next_set, H.next_del]; done) | (simp only [H.next_add, H.next_set, H.next_del]; omega) | fail)) only [go_sem, ↓reduceIte, Nat.reduceEqDiff, Nat.reduceAdd, Nat.reduceSub, Nat.reduceMul, reduceCtorEq, Nat.reduceLeDiff])
    obtain ⟨b, o, c, cs, eb, hc, hq, hg, hn, hn0⟩ := (aK.mono s78).at hlt
    cases eb
    have hk : -1 ≤ ([n, lo', hi', lo' - 1, hi' + 1] : List Int)[i] ∧ ([n, lo', hi', lo' - 1, hi' + 1] : List Int)[i] ≤ 10001 := by
      have : ∀ x ∈ ([n, lo', hi', lo' - 1, hi' + 1] : List Int), -1 ≤ x ∧ x ≤ 10001 := by
        simp only [List.mem_cons, List.not_mem_nil, or_false]
        rintro x (rfl | rfl | rfl | rfl | rfl) <;> omega
      exact this _ (List.getElem_mem hlt)
    obtain ⟨k, ek⟩ : ∃ k, ([n, lo', hi', lo' - 1, hi' + 1] : List Int)[i] = k := ⟨_, rfl⟩
    have hn1 := hn0 (by omega)
    simp only [Nat.zero_add] at hn1
    rw [ek] at hk
    simp only [ek] at hn1
    by_cases c1 : 0 ≤ k
    case neg =>
      simp (maxSteps := 1000000) (implicitDefEqProofs := false) (disch := (first | with_reducible rfl | omega | (simp only [H.next_add, H.next_set, H.next_del]; done) | (simp only [H.next_add, H.next_set, H.next_del]; omega) | fail)) only [go_sem, ↓reduceIte, Nat.reduceEqDiff, Nat.reduceAdd, Nat.reduceSub, Nat.reduceMul, reduceCtorEq, Nat.reduceLeDiff, e5, e13, e14, e15, e16, e88, e89, e90, hi5, hq (nat_cst i), hc, hn1, encI, c1, wr_succ]
      exact ⟨_, _, rfl, s78, (by simp only [ev_c, ev_put, ↓reduceIte, Nat.reduceEqDiff, e5] <;> rfl), (by simp only [ev_c, ev_put, ↓reduceIte, Nat.reduceEqDiff, e13] <;> rfl), (by simp only [ev_c, ev_put, ↓reduceIte, Nat.reduceEqDiff, e14] <;> rfl), (by simp only [ev_c, ev_put, ↓reduceIte, Nat.reduceEqDiff, e15] <;> rfl), (by simp only [ev_c, ev_put, ↓reduceIte, Nat.reduceEqDiff, e16] <;> rfl), (by simp only [ev_c, ev_put, ↓reduceIte, Nat.reduceEqDiff, e88] <;> rfl), (by simp only [ev_c, ev_put, ↓reduceIte, Nat.reduceEqDiff, e89] <;> rfl), (by simp only [ev_c, ev_put, ↓reduceIte, Nat.reduceEqDiff] <;> rfl)⟩
    by_cases c2 : k ≤ 10000
    case neg =>
      simp (maxSteps := 1000000) (implicitDefEqProofs := false) (disch := (first | with_reducible rfl | omega | (simp only [H.next_add, H.next_set, H.next_del]; done) | (simp only [H.next_add, H.next_set, H.next_del]; omega) | fail)) only [go_sem, ↓reduceIte, Nat.reduceEqDiff, Nat.reduceAdd, Nat.reduceSub, Nat.reduceMul, reduceCtorEq, Nat.reduceLeDiff, e5, e13, e14, e15, e16, e88, e89, e90, hi5, hq (nat_cst i), hc, hn1, encI, c1, c2, wr_succ]
      exact ⟨_, _, rfl, s78, (by simp only [ev_c, ev_put, ↓reduceIte, Nat.reduceEqDiff, e5] <;> rfl), (by simp only [ev_c, ev_put, ↓reduceIte, Nat.reduceEqDiff, e13] <;> rfl), (by simp only [ev_c, ev_put, ↓reduceIte, Nat.reduceEqDiff, e14] <;> rfl), (by simp only [ev_c, ev_put, ↓reduceIte, Nat.reduceEqDiff, e15] <;> rfl), (by simp only [ev_c, ev_put, ↓reduceIte, Nat.reduceEqDiff, e16] <;> rfl), (by simp only [ev_c, ev_put, ↓reduceIte, Nat.reduceEqDiff, e88] <;> rfl), (by simp only [ev_c, ev_put, ↓reduceIte, Nat.reduceEqDiff, e89] <;> rfl), (by simp only [ev_c, ev_put, ↓reduceIte, Nat.reduceEqDiff] <;> rfl)⟩
    have hr := hright k ⟨c1, c2⟩
    have sA := (s78.add (.cells .rw [.int .i64 e, .sl (h.next + 1) 0 1 (.fix 1), .sl (h.next + 1 + 1) 0 1 (.fix 1)])).add (.cells .rw [.int .i64 0, .int .i64 r, .int .i64 lo, .int .i64 hi])
    by_cases c3 : lo' ≤ k <;> by_cases c4 : k ≤ hi' <;> simp only [c3, c4, and_self, and_true, true_and, and_false, false_and, decide_true, decide_false] at hr <;>
      simp (maxSteps := 1000000) (implicitDefEqProofs := false) (disch := (first | with_reducible rfl | omega | (simp only [H.next_add, H.next_set, H.next_del]; done) | (simp only [H.next_add, H.next_set, H.next_del]; omega) | fail)) only [go_sem, ↓reduceIte, Nat.reduceEqDiff, Nat.reduceAdd, Nat.reduceSub, Nat.reduceMul, reduceCtorEq, Nat.reduceLeDiff, e5, e13, e14, e15, e16, e88, e89, e90, hi5, hq (nat_cst i), hc, hn1, encI, c1, c2, c3, c4, hr, w14, w15, w16, right_lit, beq_self_eq_true, Bool.not_true, wr_succ] <;>
      exact ⟨_, _, rfl, sA, (by simp only [ev_c, ev_put, ↓reduceIte, Nat.reduceEqDiff, e5] <;> rfl), (by simp only [ev_c, ev_put, ↓reduceIte, Nat.reduceEqDiff, e13] <;> rfl), (by simp only [ev_c, ev_put, ↓reduceIte, Nat.reduceEqDiff, e14] <;> rfl), (by simp only [ev_c, ev_put, ↓reduceIte, Nat.reduceEqDiff, e15] <;> rfl), (by simp only [ev_c, ev_put, ↓reduceIte, Nat.reduceEqDiff, e16] <;> rfl), (by simp only [ev_c, ev_put, ↓reduceIte, Nat.reduceEqDiff, e88] <;> rfl), (by simp only [ev_c, ev_put, ↓reduceIte, Nat.reduceEqDiff, e89] <;> rfl), (by simp only [ev_c, ev_put, ↓reduceIte, Nat.reduceEqDiff] <;> rfl)⟩
  · rintro s ⟨tm, h8, rfl, s78, e5, e13, e14, e15, e16, e88, e89, e90⟩
    have l8 := s78.next
    simp only [H.next_add] at l8
    have s58 := s7.trans s78
    have w14 := s58.cells g14
    have w15 := s58.cells g15
    have w16 : h8.cells h5.next = some [.int .i64 lo', .int .i64 hi'] := s78.cells (by simp (maxSteps := 1000000) (implicitDefEqProofs := false) (disch := (first | with_reducible rfl | omega | (simp only [H.next_add, H.next_set, H.next_del]; done) | (simp only [H.next_add, H.next_set, H.next_del]; omega) | fail)) only [go_sem, ↓reduceIte, Nat.reduceEqDiff, Nat.reduceAdd, Nat.reduceSub, Nat.reduceMul, reduceCtorEq, Nat.reduceLeDiff])
    have e90' : (Opd.t 90).ev tm = .int .i64 5 := e90
    have s08 := s5.trans s58
    simp (maxSteps := 1000000) (implicitDefEqProofs := false) (disch := (first | with_reducible rfl | omega | (simp only [H.next_add, H.next_set, H.next_del]; done) | (simp only [H.next_add, H.next_set, H.next_del]; omega) | fail)) only [go_sem, ↓reduceIte, Nat.reduceEqDiff, Nat.reduceAdd, Nat.reduceSub, Nat.reduceMul, reduceCtorEq, Nat.reduceLeDiff, e5, e13, e14, e15, e16, e88, e89, e90', Int.lt_irrefl, w14, w15, w16]
    have hM8 := (MlIs.own (m := ⟨e, [⟨-1, 0⟩], [⟨0, r, lo, hi⟩]⟩) (h := (((h.add (.cells .rw [.int .i64 0, .int .i64 r, .int .i64 lo, .int .i64 hi])).add (.cells .rw [.int .i64 (-1), .int .i64 0])).add (.cells .rw [.int .i64 0, .int .i64 r, .int .i64 lo, .int .i64 hi])).add
      (.cells .rw [.int .i64 e, .sl (h.next + 1) 0 1 (.fix 1), .sl (h.next + 1 + 1) 0 1 (.fix 1)])) (a := h.next + 1) (b := h.next + 1 + 1) (by simp) (by simp (maxSteps := 1000000) (implicitDefEqProofs := false) (disch := (first | with_reducible rfl | omega | (simp only [H.next_add, H.next_set, H.next_del]; done) | (simp only [H.next_add, H.next_set, H.next_del]; omega) | fail)) only [go_sem, ↓reduceIte, Nat.reduceEqDiff, Nat.reduceAdd, Nat.reduceSub, Nat.reduceMul, reduceCtorEq, Nat.reduceLeDiff]; rfl) (by simp (maxSteps := 1000000) (implicitDefEqProofs := false) (disch := (first | with_reducible rfl | omega | (simp only [H.next_add, H.next_set, H.next_del]; done) | (simp only [H.next_add, H.next_set, H.next_del]; omega) | fail)) only [go_sem, ↓reduceIte, Nat.reduceEqDiff, Nat.reduceAdd, Nat.reduceSub, Nat.reduceMul, reduceCtorEq, Nat.reduceLeDiff]; rfl)).mono (s45.trans s58)
    refine (own_ev s08.wf hM8 (by simp)).mono fun u h9 hu => ?_
    obtain ⟨s89, a, b, rfl, la1, la2, lb1, lb2, nab, ga, gb⟩ := hu
    have gb' : h9.get b = some (.cells .rw [.int .i64 0, .int .i64 r, .int .i64 lo, .int .i64 hi]) := gb
    have l9 := s89.next
    have v14 := s89.cells w14
    have v15 := s89.cells w15
    have v16 := s89.cells w16
    have w9 := s89.wf
    obtain ⟨by_, eby⟩ : ∃ by_, min p (60 - hi) = by_ := ⟨_, rfl⟩
    have kby : 0 ≤ by_ ∧ hi + by_ ≤ 60 := by omega
    simp (maxSteps := 1000000) (implicitDefEqProofs := false) (disch := (first | with_reducible rfl | omega | (simp only [H.next_add, H.next_set, H.next_del]; done) | (simp only [H.next_add, H.next_set, H.next_del]; omega) | fail)) only [go_sem, ↓reduceIte, Nat.reduceEqDiff, Nat.reduceAdd, Nat.reduceSub, Nat.reduceMul, reduceCtorEq, Nat.reduceLeDiff, e5, e13, e14, e15, e16, v14, v15, v16, q_iad_sl (n := 1) (nat_zero) (by omega : 0 < 1), Nat.zero_mul, gb', wr_in, q_ar_rem, ep, eby, List.length_singleton]
    have s8A : h8.Sub ((h9.add (.cells .rw [.int .i64 e, .sl a 0 1 (.fix 1), .sl b 0 1 (.fix 1)])).set b (.cells .rw [.int .i64 0, .int .i64 r, .int .i64 (lo + by_), .int .i64 (hi + by_)])) :=
      (s89.add _).set lb1 (by rw [H.next_add]; omega) s08.wf _
    refine (Says_ev (m := ⟨e, [⟨-1, 0⟩], [⟨0, r, lo + by_, hi + by_⟩]⟩) s8A.wf (MlIs.own (by simp) (by simp (maxSteps := 1000000) (implicitDefEqProofs := false) (disch := (first | with_reducible rfl | omega | (simp only [H.next_add, H.next_set, H.next_del]; done) | (simp only [H.next_add, H.next_set, H.next_del]; omega) | fail)) only [go_sem, ↓reduceIte, Nat.reduceEqDiff, Nat.reduceAdd, Nat.reduceSub, Nat.reduceMul, reduceCtorEq, Nat.reduceLeDiff, ga]) (by simp (maxSteps := 1000000) (implicitDefEqProofs := false) (disch := (first | with_reducible rfl | omega | (simp only [H.next_add, H.next_set, H.next_del]; done) | (simp only [H.next_add, H.next_set, H.next_del]; omega) | fail)) only [go_sem, ↓reduceIte, Nat.reduceEqDiff, Nat.reduceAdd, Nat.reduceSub, Nat.reduceMul, reduceCtorEq, Nat.reduceLeDiff]; rfl)) 0).mono fun u hB hu => ?_
    obtain ⟨sAB, lo2, hi2, e2, rfl, hu⟩ := hu
    have s8B := s8A.trans sAB
    have lB := s8B.next
    have x14 := s8B.cells w14
    have x15 := s8B.cells w15
    have x16 := s8B.cells w16
    have hc1 := check_one (e := e) (r := r) (lo := lo + by_) (hi := hi + by_) (by omega) (by omega) (by omega) (by omega)
    have hl1 := hless by_ kby.1
    have he2 : (e2 = 6 ∨ (e2 = 0 ∧ lo2 ≤ lo' ∧ hi2 ≤ hi')) := by
      rcases hu with ⟨c, _⟩ | ⟨_, c, _⟩ | ⟨_, i, hi0, ei, hu⟩
      · exact absurd hc1 c
      · exact absurd (by simp) c
      · have ei0 : i = 0 := by omega
        subst ei0
        simp only [List.getElem_cons_zero] at hu
        rcases hu with ⟨_, e6, _⟩ | ⟨_, e6, e7, e8⟩
        · exact .inl e6
        · rw [← e7, ← e8] at hl1; exact .inr ⟨e6, hl1⟩
    have hMB := hM8.mono (s8B.add (.cells .rw [.int .i64 lo2, .int .i64 hi2]))
    have sBC : hB.Sub (hB.add (.cells .rw [.int .i64 lo2, .int .i64 hi2])) := (H.Sub.refl s8B.wf).add _
    rcases he2 with rfl | ⟨rfl, g1, g2⟩
    · simp (maxSteps := 1000000) (implicitDefEqProofs := false) (disch := (first | with_reducible rfl | omega | (simp only [H.next_add, H.next_set, H.next_del]; done) | (simp only [H.next_add, H.next_set, H.next_del]; omega) | fail)) only [go_sem, ↓reduceIte, Nat.reduceEqDiff, Nat.reduceAdd, Nat.reduceSub, Nat.reduceMul, reduceCtorEq, Nat.reduceLeDiff, e5, e13, e14, e15, e16, x14, x15, x16, ne_eq, Int.reduceEq, not_true_eq_false, not_false_eq_true]
      refine (own_ev (H.Sub.wf (s8B.add _)) hMB (by simp)).mono fun u hD hu => ?_
      obtain ⟨sCD, a2, b2, rfl, ma1, ma2, mb1, mb2, nab2, ga2, gb2⟩ := hu
      have lD := sCD.next
      simp only [H.next_add] at lD
      have y15 := (sBC.trans sCD).cells x15
      have y16 := (sBC.trans sCD).cells x16
      have wD := sCD.wf
      obtain ⟨f, ef⟩ : ∃ f, min 50 (e + p7) = f := ⟨_, rfl⟩
      have kf : e ≤ f ∧ f ≤ 50 := by omega
      simp (maxSteps := 1000000) (implicitDefEqProofs := false) (disch := (first | with_reducible rfl | omega | (simp only [H.next_add, H.next_set, H.next_del]; done) | (simp only [H.next_add, H.next_set, H.next_del]; omega) | fail)) only [go_sem, ↓reduceIte, Nat.reduceEqDiff, Nat.reduceAdd, Nat.reduceSub, Nat.reduceMul, reduceCtorEq, Nat.reduceLeDiff, e5, e15, e16, y15, y16, wr_in, q_ar_rem, ep7, ef, List.length_singleton]
      refine (Says_ev (m := ⟨f, [⟨-1, 0⟩], [⟨0, r, lo, hi⟩]⟩) (H.wf_add wD _) (MlIs.own (by simp) (by simp (maxSteps := 1000000) (implicitDefEqProofs := false) (disch := (first | with_reducible rfl | omega | (simp only [H.next_add, H.next_set, H.next_del]; done) | (simp only [H.next_add, H.next_set, H.next_del]; omega) | fail)) only [go_sem, ↓reduceIte, Nat.reduceEqDiff, Nat.reduceAdd, Nat.reduceSub, Nat.reduceMul, reduceCtorEq, Nat.reduceLeDiff, ga2]) (by simp (maxSteps := 1000000) (implicitDefEqProofs := false) (disch := (first | with_reducible rfl | omega | (simp only [H.next_add, H.next_set, H.next_del]; done) | (simp only [H.next_add, H.next_set, H.next_del]; omega) | fail)) only [go_sem, ↓reduceIte, Nat.reduceEqDiff, Nat.reduceAdd, Nat.reduceSub, Nat.reduceMul, reduceCtorEq, Nat.reduceLeDiff, gb2])) 0).mono fun u hE hu => ?_
      obtain ⟨sDE, lo3, hi3, e3, rfl, hu⟩ := hu
      have lE := sDE.next
      simp only [H.next_add] at lE
      have hc2 := check_one (e := f) (r := r) (lo := lo) (hi := hi) (by omega) (by omega) (by omega) (by omega)
      have hl2 := hmore f kf.1
      have he3 : e3 = 0 ∧ lo3 ≤ lo' ∧ hi' ≤ hi3 := by
        rcases hu with ⟨c, _⟩ | ⟨_, c, _⟩ | ⟨_, i, hi0, ei, hu⟩
        · exact absurd hc2 c
        · exact absurd (by simp) c
        · have ei0 : i = 0 := by omega
          subst ei0
          simp only [List.getElem_cons_zero] at hu
          rcases hu with ⟨c, _⟩ | ⟨_, e6, e7, e8⟩
          · omega
          · rw [← e7, ← e8] at hl2; exact ⟨e6, hl2⟩
      obtain ⟨rfl, g3, g4⟩ := he3
      have z16 : hE.cells h5.next = some [.int .i64 lo', .int .i64 hi'] := sDE.cells (by rw [cells_add_old (by omega)]; exact y16)
      simp (maxSteps := 1000000) (implicitDefEqProofs := false) (disch := (first | with_reducible rfl | omega | (simp only [H.next_add, H.next_set, H.next_del]; done) | (simp only [H.next_add, H.next_set, H.next_del]; omega) | fail)) only [go_sem, ↓reduceIte, Nat.reduceEqDiff, Nat.reduceAdd, Nat.reduceSub, Nat.reduceMul, reduceCtorEq, Nat.reduceLeDiff, e5, e15, e16, z16, g3, g4, awake_eq]
      exact q _ _ rfl
    · have g1' : ¬ lo' < lo2 := by omega
      have g2' : ¬ hi' < hi2 := by omega
      simp (maxSteps := 1000000) (implicitDefEqProofs := false) (disch := (first | with_reducible rfl | omega | (simp only [H.next_add, H.next_set, H.next_del]; done) | (simp only [H.next_add, H.next_set, H.next_del]; omega) | fail)) only [go_sem, ↓reduceIte, Nat.reduceEqDiff, Nat.reduceAdd, Nat.reduceSub, Nat.reduceMul, reduceCtorEq, Nat.reduceLeDiff, e5, e13, e14, e15, e16, x14, x15, x16, ne_eq, Int.reduceEq, not_true_eq_false, not_false_eq_true, g1', g2']
      refine (own_ev (H.Sub.wf (s8B.add _)) hMB (by simp)).mono fun u hD hu => ?_
      obtain ⟨sCD, a2, b2, rfl, ma1, ma2, mb1, mb2, nab2, ga2, gb2⟩ := hu
      have lD := sCD.next
      simp only [H.next_add] at lD
      have y15 := (sBC.trans sCD).cells x15
      have y16 := (sBC.trans sCD).cells x16
      have wD := sCD.wf
      obtain ⟨f, ef⟩ : ∃ f, min 50 (e + p7) = f := ⟨_, rfl⟩
      have kf : e ≤ f ∧ f ≤ 50 := by omega
      simp (maxSteps := 1000000) (implicitDefEqProofs := false) (disch := (first | with_reducible rfl | omega | (simp only [H.next_add, H.next_set, H.next_del]; done) | (simp only [H.next_add, H.next_set, H.next_del]; omega) | fail)) only [go_sem, ↓reduceIte, Nat.reduceEqDiff, Nat.reduceAdd, Nat.reduceSub, Nat.reduceMul, reduceCtorEq, Nat.reduceLeDiff, e5, e15, e16, y15, y16, wr_in, q_ar_rem, ep7, ef, List.length_singleton]
      refine (Says_ev (m := ⟨f, [⟨-1, 0⟩], [⟨0, r, lo, hi⟩]⟩) (H.wf_add wD _) (MlIs.own (by simp) (by simp (maxSteps := 1000000) (implicitDefEqProofs := false) (disch := (first | with_reducible rfl | omega | (simp only [H.next_add, H.next_set, H.next_del]; done) | (simp only [H.next_add, H.next_set, H.next_del]; omega) | fail)) only [go_sem, ↓reduceIte, Nat.reduceEqDiff, Nat.reduceAdd, Nat.reduceSub, Nat.reduceMul, reduceCtorEq, Nat.reduceLeDiff, ga2]) (by simp (maxSteps := 1000000) (implicitDefEqProofs := false) (disch := (first | with_reducible rfl | omega | (simp only [H.next_add, H.next_set, H.next_del]; done) | (simp only [H.next_add, H.next_set, H.next_del]; omega) | fail)) only [go_sem, ↓reduceIte, Nat.reduceEqDiff, Nat.reduceAdd, Nat.reduceSub, Nat.reduceMul, reduceCtorEq, Nat.reduceLeDiff, gb2])) 0).mono fun u hE hu => ?_
      obtain ⟨sDE, lo3, hi3, e3, rfl, hu⟩ := hu
      have lE := sDE.next
      simp only [H.next_add] at lE
      have hc2 := check_one (e := f) (r := r) (lo := lo) (hi := hi) (by omega) (by omega) (by omega) (by omega)
      have hl2 := hmore f kf.1
      have he3 : e3 = 0 ∧ lo3 ≤ lo' ∧ hi' ≤ hi3 := by
        rcases hu with ⟨c, _⟩ | ⟨_, c, _⟩ | ⟨_, i, hi0, ei, hu⟩
        · exact absurd hc2 c
        · exact absurd (by simp) c
        · have ei0 : i = 0 := by omega
          subst ei0
          simp only [List.getElem_cons_zero] at hu
          rcases hu with ⟨c, _⟩ | ⟨_, e6, e7, e8⟩
          · omega
          · rw [← e7, ← e8] at hl2; exact ⟨e6, hl2⟩
      obtain ⟨rfl, g3, g4⟩ := he3
      have z16 : hE.cells h5.next = some [.int .i64 lo', .int .i64 hi'] := sDE.cells (by rw [cells_add_old (by omega)]; exact y16)
      simp (maxSteps := 1000000) (implicitDefEqProofs := false) (disch := (first | with_reducible rfl | omega | (simp only [H.next_add, H.next_set, H.next_del]; done) | (simp only [H.next_add, H.next_set, H.next_del]; omega) | fail)) only [go_sem, ↓reduceIte, Nat.reduceEqDiff, Nat.reduceAdd, Nat.reduceSub, Nat.reduceMul, reduceCtorEq, Nat.reduceLeDiff, e5, e15, e16, z16, g3, g4, awake_eq]
      exact q _ _ rfl
end Go.Ab.Try
set_option linter.unusedSimpArgs false
set_option linter.unusedVariables false
namespace Go.Proofs.Ythoghcpemmfebaa
open Go.ChangeShapes Go.WideShapes Go.ChangeAt Go.RowKit
open Go.Ab
theorem Try.own : ownKnob Try.prog.godebug = none := by kernel_rfl
theorem Try.laidOut : laidOutB Try.prog = true := by kernel_rfl
theorem damp_walk {a b c d e f : Int} (ha : (Lit.int .u16 a).wf = true) (hb : (Lit.int .u16 b).wf = true) (hc : (Lit.int .u8 c).wf = true) (hd : (Lit.int .u8 d).wf = true) (he : (Lit.int .u8 e).wf = true) (hf : (Lit.int .u8 f).wf = true) (W : World) :
    Calls Try.prog 7 #[.int .u16 a, .int .u16 b, .int .u8 c, .int .u8 d, .int .u8 e, .int .u8 f] W fun x W' => x = .returned (.bool true) ∧ Same W W' := by
  have w1 : ∀ n, (Lit.int .u16 n).wf = true → 0 ≤ n ∧ n ≤ 65535 := fun n h => by simp [Lit.wf, IntKind.min, IntKind.max, IntKind.bits, IntKind.signed] at h; omega
  have w2 : ∀ n, (Lit.int .u8 n).wf = true → 0 ≤ n ∧ n ≤ 255 := fun n h => by simp [Lit.wf, IntKind.min, IntKind.max, IntKind.bits, IntKind.signed] at h; omega
  have hwf : H.wf ⟨0, .nil⟩ := fun b x hb => by
    have : (T.nil : T Blk).get b = some x := hb
    rw [T.get_nil] at this; cases this
  obtain ⟨v, h', hs, rfl⟩ := Go.Ab.Try.spec_of (fd := Go.Ab.Try.c7) rfl (Go.Ab.Try.SilkDamp_ev hwf (w1 a ha) (w1 b hb) (w2 c hc) (w2 d hd) (w2 e he) (w2 f hf))
  have hg : ∀ b x, (H.get ⟨0, .nil⟩ b) = some x → False := fun b x hb => by
    have : (T.nil : T Blk).get b = some x := hb
    rw [T.get_nil] at this; cases this
  have h0 : Rep Go.Ab.Try.tyG ⟨fun _ => 0, fun _ => 0, fun _ => 0⟩ (H.get ⟨0, .nil⟩) (fun _ => False) W := ⟨fun b x hb => (hg b x hb).elim, fun b c x y hb => (hg b x hb).elim, fun b x hb => (hg b x hb).elim⟩
  refine (calls_of_spec hs h0 (fun b _ _ h => h) (by simp [scL, V.sc]) hwf fun b x hb => (hg b x hb).elim).mono fun e W' he => ?_
  obtain ⟨φ', rfl, hsame⟩ := he
  exact ⟨by simp [conc], hsame⟩
set_option maxRecDepth 100000 in
theorem SilkDamp_lifted (os : Os) (started : os.Started) (H : Type) (enc : TypeId × Value → H) :
    ReturnsInHanded {} Try.checked os 7 .any (Rows.silkDampSpec.pre6 enc Try.prog Try.f7 Rows.silkDampRow.domain false) (Rows.silkDampSpec.post enc Try.prog Try.f7 false true false false) := by
  refine returnsInHanded_of_change (C := Try.checked) Try.own started (by kernel_rfl) Try.func7
    (ChangeSpec.witness6 (enc := enc) (C := Try.checked) false ⟨#[], #[.int .u16 0, .int .u16 0, .int .u8 0, .int .u8 0, .int .u8 0, .int .u8 0], []⟩ 8 (by kernel_rfl) (by kernel_rfl) (by kernel_rfl) (by kernel_rfl)) ?_
  intro W base args ds gs before hval0 hW hcnd _
  have hval : ∀ (j : Nat) t v, Try.f7.params[j]? = some t → args[j]? = some v → Value.okWide Try.prog W .any base t v := hval0
  have hW' := hW
  obtain ⟨p, q, hA0, hV, rfl, hfz, hnd⟩ := hW
  have hA : DataW.TrodAll enc Try.prog W 0 (fun _ => true) true Try.f7.params.toList args.toList ds p := hA0
  rw [Try.params7] at hA hval
  obtain ⟨v0, vs, d0, ds0, p0, q0, ea, rfl, rfl, h0, hr⟩ := trodAll_cons hA
  obtain ⟨v1, vs, d1, ds0, p1, q0, rfl, rfl, rfl, h1, hr⟩ := trodAll_cons hr
  obtain ⟨v2, vs, d2, ds0, p2, q0, rfl, rfl, rfl, h2, hr⟩ := trodAll_cons hr
  obtain ⟨v3, vs, d3, ds0, p3, q0, rfl, rfl, rfl, h3, hr⟩ := trodAll_cons hr
  obtain ⟨v4, vs, d4, ds0, p4, q0, rfl, rfl, rfl, h4, hr⟩ := trodAll_cons hr
  obtain ⟨v5, vs, d5, ds0, p5, q0, rfl, rfl, rfl, h5, hr⟩ := trodAll_cons hr
  obtain ⟨rfl, rfl, rfl⟩ := trodAll_nil hr
  have ea' : args = #[v0, v1, v2, v3, v4, v5] := by cases args; simp_all
  subst ea'
  obtain ⟨rfl, rfl⟩ := trodVars_none hV
  obtain ⟨a, rfl, rfl, rfl, wa⟩ := open_int Try.underlying83 (hval 0 83 v0 rfl rfl) h0
  obtain ⟨b, rfl, rfl, rfl, wb⟩ := open_int Try.underlying83 (hval 1 83 v1 rfl rfl) h1
  obtain ⟨c, rfl, rfl, rfl, wc⟩ := open_int Try.underlying5 (hval 2 5 v2 rfl rfl) h2
  obtain ⟨d, rfl, rfl, rfl, wd⟩ := open_int Try.underlying5 (hval 3 5 v3 rfl rfl) h3
  obtain ⟨e, rfl, rfl, rfl, we⟩ := open_int Try.underlying5 (hval 4 5 v4 rfl rfl) h4
  obtain ⟨f, rfl, rfl, rfl, wf⟩ := open_int Try.underlying5 (hval 5 5 v5 rfl rfl) h5
  clear hA0 hval0
  simp only [List.append_nil] at hW'
  refine (damp_walk wa wb wc wd we wf W).mono fun x W' hx => ?_
  obtain ⟨rfl, hsame⟩ := hx
  refine ⟨_, rfl, _, _, _, [], [], [], hW', ?_, ?_, rfl, hsame.keptBut _, fun h => by cases h⟩
  · exact trodAll_mk1 (shut_bool Try.underlying4 true)
  · exact ⟨[], [], shut_int Try.underlying83 wa, ⟨[], [], shut_int Try.underlying83 wb, ⟨[], [], shut_int Try.underlying5 wc, ⟨[], [], shut_int Try.underlying5 wd, ⟨[], [], shut_int Try.underlying5 we, ⟨[], [], shut_int Try.underlying5 wf, trodAll_mk0, rfl⟩, rfl⟩, rfl⟩, rfl⟩, rfl⟩, rfl⟩
theorem SilkDamp_holds : Rows.SilkDampSaid :=
  OpenClaim.holds_of_wide 7 Try.f7 rfl rfl rfl rfl rfl rfl rfl ⟨rfl, rfl, rfl, rfl, rfl⟩ rfl rfl rfl rfl rfl (by kernel_rfl) Try.func7 (by kernel_rfl)
    (of_decide_eq_true (by kernel_rfl)) (by unfold Func.isWrapper; first | (rw [if_pos (by decide +kernel)]; kernel_rfl) | (rw [if_neg (by decide +kernel)]; exact ⟨rfl, rfl⟩))
    (fun os started H enc _ => SilkDamp_lifted os started H enc)
#print axioms SilkDamp_holds
end Go.Proofs.Ythoghcpemmfebaa
