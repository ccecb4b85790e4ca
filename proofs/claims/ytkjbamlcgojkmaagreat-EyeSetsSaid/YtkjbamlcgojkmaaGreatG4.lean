/- The reference's steps, layer by layer. Plain. Sees, Apart, Match, Scrap. How far a part of a shade can change: Shades, as the program and as the reference find it. The reference's Shades, Apart and Scrap. EyeMatches. How far a piece is from another: the search by breadth, in a map. Chain. Kin: who can be reached. Plain; lists of lists. Kin. How far, whoever finds it; the reference's table of matches. -/
import Derived.Test.YtkjbamlcgojkmaaGreatG2
set_option linter.unusedSimpArgs false
set_option linter.unusedVariables false
namespace Go.Ab.Tryz
theorem opened_use {h : H} {E L P : V} {t : Tb} (hw : h.wf) (ht : TbIs h (.agg [E, L, P]) t) (Q : V → H → Prop) (q0 : ∀ h', h.Sub h' → check t ≠ 0 → Q (.tup [.nilp, .int .i64 (check t)]) h') (q1 : ∀ h' d, h.Sub h' → check t = 0 → Good t → DkAt h' d t → Q (.tup [.ptr d 0, .int .i64 0]) h') :
  Ev fnG fastA (.fn 74 [] []) [.agg [E, L, P]] h Q :=
 (opened_ev hw ht).mono fun u h' hu => by
  obtain ⟨s, hu⟩ := hu
  rcases hu with ⟨c, rfl⟩ | ⟨c, d, rfl, _, hd⟩
  ·exact q0 _ s c
  ·exact q1 _ d s c (check_iff.1 c) hd
def isPc (t : Tb) (p : Int) : Bool := decide (0 ≤ p ∧ p < t.pieces.length)
theorem piece_ev {h : H} {E L P : V} {t : Tb} (hw : h.wf) (ht : TbIs h (.agg [E, L, P]) t) (p : Int) (Q : V → H → Prop) (q : ∀ h', h.Sub h' → Q (.bool (isPc t p)) h') : Ev fnG fastA (.fn 75 [] []) [.agg [E, L, P], .int .i64 p] h Q := by
 obtain ⟨E', L', P', e, aE, aL, aP⟩ := ht
 cases e
 have hlP := aP.lenE
 have bP := aP.boundE
 refine Ev_body (fd := c75) rfl rfl rfl ?_
 have e : inB p 0 ((t.pieces.length : Int) - 1) = isPc t p := by unfold inB isPc; rw [Bool.eq_iff_iff]; simp; omega
 simp -implicitDefEqProofs (maxSteps := 999999) (disch := first | with_reducible rfl | omega | (simp only [nA, nS, nD] <;> omega) | fail) only [c75, go_sem, hlP, wr_in, in_ev, e]
 exact q _ ((by repeat (first | assumption | exact H.Sub.refl (by assumption) | refine H.Sub.add ?_ _ | refine H.Sub.set ?_ (by first | omega | (simp only [H.next_add, H.next_set, H.next_del] <;> omega)) (by first | omega | (simp only [H.next_add, H.next_set, H.next_del] <;> omega)) (by assumption) _)))
end Go.Ab.Tryz
set_option linter.unusedSimpArgs false
set_option linter.unusedVariables false
namespace Go.Ab.Tryz
def Sd.put (s : Sd) (p : Nat) (n : Int) : Sd := match p with
 | 0 => ⟨n, s.y, s.z⟩
 | 1 => ⟨s.x, n, s.z⟩
 | _ => ⟨s.x, s.y, n⟩
theorem put_put (s : Sd) (p : Nat) (m n : Int) : (s.put p m).put p n = s.put p n := match p with | 0 => rfl | 1 => rfl | _ + 2 => rfl
def okP (t : Tb) (s : Sd) (p : Nat) (n : Int) : Bool := alike t s (s.put p n)
end Go.Ab.Tryz
set_option linter.unusedSimpArgs false
set_option linter.unusedVariables false
namespace Go.Ab
theorem OwnSl.up {h0 h1 h : H} {x : V} {sz : Nat} {rows : List (List V)} (a : OwnSl h1 h x sz rows) (s : h0.Sub h1) : OwnSl h0 h x sz rows := by
 obtain ⟨a0, a1, a2⟩ := a
 refine ⟨s.trans a0, a1, ?_⟩
 have := s.next
 rcases a2 with a2 | ⟨b, e, l1, l2, hb⟩
 ·exact .inl a2
 ·exact .inr ⟨b, e, by omega, l2, hb⟩
end Go.Ab
namespace Go.Ab.Tryz
end Go.Ab.Tryz
set_option linter.unusedSimpArgs false
set_option linter.unusedVariables false
namespace Go.Ab.Tryz
variable {Fn : Nat → Option FD} {fast : Nat → Option (List V → H → Option (V × H))} {N fn : Nat} {ro : Option Nat}
theorem PBd_join {v : V} {c1 c2 : C} {s1 s2 : St} {K : X → St → Prop} {tg} (R : X → St → Prop) (h : PBd v (W Fn fast N fn ro c1 s1 R) (W Fn fast N fn ro c2 s2 R) ⟨⟩) (k : ∀ x s, R x s → K x s) : PBd v (W Fn fast N fn ro c1 s1 K) (W Fn fast N fn ro c2 s2 K) tg := by
 cases v
 case bool b => cases b <;> exact W.mono h k
 all_goals exact h.elim
theorem Small_of {t : Tb} (h : greatT t = false) : Small t := by
 simp only [greatT, decide_eq_false_iff_not] at h
 exact ⟨by omega, by omega, by omega⟩
end Go.Ab.Tryz
set_option linter.unusedSimpArgs false
set_option linter.unusedVariables false
namespace Go.Ab.Tryz
def MM (t : Tb) (q p : Nat) : Bool := matchB t p q
theorem MM_comm {t : Tb} (g : Good t) (p q : Nat) : MM t p q = MM t q p := by
 unfold MM matchB
 cases hp : t.pieces[p]? with
 | none => cases hq : t.pieces[q]? <;> rfl
 | some a =>
  cases hq : t.pieces[q]? with
  | none => rfl
  | some b => exact alike_comm g b a
end Go.Ab.Tryz
set_option linter.unusedSimpArgs false
set_option linter.unusedVariables false
namespace Go.Ab.Tryz
end Go.Ab.Tryz
set_option linter.unusedSimpArgs false
set_option linter.unusedVariables false
namespace Go.Ab
def LsOwn (h0 h : H) (x : V) (ls : List (List (List V))) : Prop := ∃ xs : List V, OwnC h0 h x 1 (xs.map fun v => [v]) ∧ xs.length = ls.length ∧
  ∀ i (hi : i < xs.length) (hj : i < ls.length), OwnC h0 h xs[i] 1 ls[i] ∧ ∀ b, blkOf xs[i] b → ¬ blkOf x b
theorem LsOwn.nil {h0 h : H} (s : h0.Sub h) : LsOwn h0 h .nils [] := ⟨[], (OwnSl.nil s 1).c, rfl, fun i hi => by simp at hi⟩
theorem LsOwn.mono {h0 h h' : H} {x : V} {ls : List (List (List V))} (a : LsOwn h0 h x ls) (s : h.Sub h') : LsOwn h0 h' x ls := by
  obtain ⟨xs, a1, a2, a3⟩ := a
  exact ⟨xs, a1.mono s, a2, fun i hi hj => ⟨(a3 i hi hj).1.mono s, (a3 i hi hj).2⟩⟩
theorem LsOwn.keep {h0 h h' : H} {S : Nat → Prop} {x : V} {ls : List (List (List V))} (a : LsOwn h0 h x ls) (k : Keeps S h h') (s : h0.Sub h') (n : ∀ b, h0.next ≤ b → b < h.next → ¬ S b) : LsOwn h0 h' x ls := by
  obtain ⟨xs, a1, a2, a3⟩ := a
  refine ⟨xs, a1.keep k s fun b hb => n b (a1.blk hb).1 (a1.blk hb).2.1, a2, fun i hi hj => ⟨(a3 i hi hj).1.keep k s fun b hb => n b ((a3 i hi hj).1.blk hb).1 ((a3 i hi hj).1.blk hb).2.1, (a3 i hi hj).2⟩⟩
theorem LsOwn.base {h0 h1 h : H} {x : V} {ls : List (List (List V))} (a : LsOwn h1 h x ls) (s : h0.Sub h1) : LsOwn h0 h x ls := by
  obtain ⟨xs, a1, a2, a3⟩ := a
  exact ⟨xs, a1.base s, a2, fun i hi hj => ⟨(a3 i hi hj).1.base s, (a3 i hi hj).2⟩⟩
theorem LsOwn.push {h0 h : H} {x y v : V} {ls : List (List (List V))} {l : List (List V)} {Q : V → H → Prop} (a : LsOwn h0 h x ls) (hw0 : h0.wf) (hl : ls.length ≤ 1000) (ov : OwnC h0 h v 1 l) (dv : ∀ b, blkOf v b → ¬ blkOf x b) (hy : SlAt h y 1 [[v]])
    (q : ∀ x' h', LsOwn h0 h' x' (ls ++ [l]) → Keeps (blkOf x) h h' → Q x' h') : P2 (e_app' h 1 24 x y) Q := by
  obtain ⟨xs, a1, a2, a3⟩ := a
  have hone : allOne [v] = true := by simp [allOne_cons, ov.one, allOne_nil]
  refine a1.app1 (by_ := 24) (r := [v]) hw0 rfl (by omega) hy hone (by simp only [List.length_map]; omega) (by simp only [List.length_map]; omega) fun x' h' o' nb k => ?_
  refine q x' h' ⟨xs ++ [v], by rw [List.map_append]; exact o', by simp [a2], fun i hi hj => ?_⟩ k
  rw [List.length_append, List.length_singleton] at hi hj
  by_cases hlt : i < xs.length
  · rw [List.getElem_append_left hlt, List.getElem_append_left (by omega)]
    obtain ⟨c1, c2⟩ := a3 i hlt (by omega)
    refine ⟨c1.keep k o'.1 c2, fun b hb hx => ?_⟩
    rcases nb b hx with h1 | h1
    · exact c2 b hb h1
    · have := (c1.blk hb).2.1; omega
  · have e : i = xs.length := by omega
    have e1 : (xs ++ [v])[i] = v := by subst e; simp
    have e2 : (ls ++ [l])[i] = l := by have : i = ls.length := by omega
                                       subst this; simp
    rw [e1, e2]
    refine ⟨ov.keep k o'.1 dv, fun b hb hx => ?_⟩
    rcases nb b hx with h1 | h1
    · exact dv b hb h1
    · have := (ov.blk hb).2.1; omega
namespace Tryz
noncomputable def rch (t : Tb) (p q : Nat) : Bool := @decide (∃ k, Wk t.pieces.length (MM t) k p q) (Classical.propDecidable _)
theorem Wk.trans {n : Nat} {M : Nat → Nat → Bool} {p q : Nat} : ∀ {k j r}, Wk n M j p q → Wk n M k q r → ∃ i, Wk n M i p r
  | 0, j, r, h1, h2 => ⟨j, by rw [← (show q = r from h2)]; exact h1⟩
  | k + 1, j, r, h1, ⟨x, hx, h2, h3⟩ => by
    obtain ⟨i, h4⟩ := Wk.trans h1 h2
    exact ⟨i + 1, x, hx, h4, h3⟩
noncomputable def before (t : Tb) (c : Nat) : Bool := (List.range c).any fun p => rch t p c
end Tryz
end Go.Ab
set_option linter.unusedSimpArgs false
set_option linter.unusedVariables false
namespace Go.Ab.Tryz
theorem indexInt_ev {l : List Int} {h : H} {x : V} (hw : h.wf) (hx : SlAt h x 1 (l.map encI)) (e : Int) :
  E (.fn 111 [] []) [x, .int .i64 e] h fun v h' => v = .int .i64 (fidx (fun r => decide (e = r)) l 0) ∧ h.Sub h' := by
 have hb := hx.boundE
 refine Ev_body (fd := c111) rfl rfl rfl ?_
 simp -implicitDefEqProofs (maxSteps := 999999) (disch := first | with_reducible rfl | omega | (simp only [nA, nS, nD] <;> omega) | fail) only [c111, go_sem, hx.lenE]
 refine W_count l.length (fun i s => ∃ tm h', s = ⟨tm, h', []⟩ ∧ h.Sub h' ∧ (Opd.t 0).ev tm = x ∧ (Opd.t 1).ev tm = .int .i64 e ∧ (Opd.t 7).ev tm = .int .i64 (l.length : Int) ∧ (Opd.t 8).ev tm = .int .i64 (i : Int) ∧ fidx (fun r => decide (e = r)) l 0 = fidx (fun r => decide (e = r)) (l.drop i) i)
  ?_ ?_ (i := 0) (Nat.zero_le _) ⟨_, _, rfl, H.Sub.refl hw, (by simp [ev_c, ev_put] <;> rfl), (by simp [ev_c, ev_put] <;> rfl), (by simp [ev_c, ev_put] <;> rfl), (by simp [ev_c, ev_put] <;> rfl), rfl⟩
 ·rintro i s hi ⟨tm, h', rfl, hs, e0, e1, e7, e8, e9⟩
  have hi' : (i : Int) < (l.length : Int) := by omega
  obtain ⟨b, o, c, cs, rfl, hc, hq, hg, hn, hn0⟩ := (hx.mono hs).at hi
  have hv := hn0 (by omega)
  simp only [encI] at hv
  simp -implicitDefEqProofs (maxSteps := 999999) (disch := first | with_reducible rfl | omega | (simp only [nA, nS, nD] <;> omega) | fail) only [go_sem, e0, e1, e7, e8, hi', hq (nat_cst i), hc, hv]
  by_cases hpr : e = l[i]
  ·have hd : decide (e = l[i]) = true := decide_eq_true hpr
   simp -implicitDefEqProofs (maxSteps := 999999) (disch := first | with_reducible rfl | omega | (simp only [nA, nS, nD] <;> omega) | fail) only [go_sem, e0, e1, e7, e8, hd, hpr]
   exact ⟨by first | rw [e9, fidx_hit hi hd] | (rw [← hpr]; rw [e9, fidx_hit hi hd]), hs⟩
  ·have hd : decide (e = l[i]) = false := decide_eq_false hpr
   simp -implicitDefEqProofs (maxSteps := 999999) (disch := first | with_reducible rfl | omega | (simp only [nA, nS, nD] <;> omega) | fail) only [go_sem, e0, e1, e7, e8, hd, hpr, wr_succ]
   exact ⟨_, _, rfl, hs, (by simp [ev_c, ev_put, e0] <;> rfl), (by simp [ev_c, ev_put, e1] <;> rfl), (by simp [ev_c, ev_put, e7] <;> rfl), (by simp [ev_c, ev_put] <;> rfl), by rw [e9, fidx_miss hi hd]⟩
 ·rintro s ⟨tm, h', rfl, hs, e0, e1, e7, e8, e9⟩
  simp -implicitDefEqProofs (maxSteps := 999999) (disch := first | with_reducible rfl | omega | (simp only [nA, nS, nD] <;> omega) | fail) only [go_sem, e0, e1, e7, e8, Int.lt_irrefl]
  exact ⟨by rw [e9]; simp [fidx], hs⟩
theorem hasInt_ev {l : List Int} {h : H} {x : V} (hw : h.wf) (hx : SlAt h x 1 (l.map encI)) (e : Int) (Q : V → H → Prop) (q : ∀ h', h.Sub h' → Q (.bool (l.any fun r => decide (e = r))) h') :
  Ev fnG fastA (.fn 42 [] []) [x, .int .i64 e] h Q := by
 refine Ev_body (fd := c42) rfl rfl rfl ?_
 simp -implicitDefEqProofs (maxSteps := 999999) (disch := first | with_reducible rfl | omega | (simp only [nA, nS, nD] <;> omega) | fail) only [c42, go_sem]
 refine (indexInt_ev hw hx e).mono fun v h' hv => ?_
 obtain ⟨rfl, hs⟩ := hv
 simp -implicitDefEqProofs (maxSteps := 999999) (disch := first | with_reducible rfl | omega | (simp only [nA, nS, nD] <;> omega) | fail) only [go_sem]
 rw [fidx_any]
 exact q _ hs
end Go.Ab.Tryz
set_option linter.unusedSimpArgs false
set_option linter.unusedVariables false
namespace Go.Ab
def rowB (f : Nat → Bool) (n : Nat) : List V := (List.range n).map fun j => .bool (f j)
theorem rowB_len (f : Nat → Bool) (n : Nat) : (rowB f n).length = n := by simp [rowB]
theorem rowB_nth {f : Nat → Bool} {n j : Nat} (h : j < n) : nth j (rowB f n) = some (.bool (f j)) := by
 rw [nth_get]; simp [rowB, h]
theorem rowB_put {f : Nat → Bool} {n j : Nat} (h : j < n) (b : Bool) : putN j [.bool b] (rowB f n) = some (rowB (fun i => if i = j then b else f i) n) := by
 have hl := rowB_len f n
 have e : (rowB f n).set j (.bool b) = (rowB f n).take j ++ [.bool b] ++ (rowB f n).drop (j + 1) := by
  rw [List.set_eq_take_append_cons_drop, if_pos (by omega), List.append_assoc]; rfl
 refine (putN_eq (by simp)).2 ⟨?_, by rw [hl]; exact h⟩
 show _ = (rowB f n).take j ++ [.bool b] ++ (rowB f n).drop (j + 1)
 rw [← e]
 refine List.ext_getElem (by simp [rowB]) fun i h1 h2 => ?_
 rw [List.getElem_set]
 simp only [rowB, List.getElem_map, List.getElem_range]
 by_cases c : j = i
 ·subst c; simp
 ·rw [if_neg (fun e => c e.symm), if_neg c]
theorem repN_false (n : Nat) : repN n [.bool false] = rowB (fun _ => false) n := by
 induction n with
 | zero => rfl
 | succ n ih =>
  have : rowB (fun _ => false) (n + 1) = [.bool false] ++ rowB (fun _ => false) n := by
   simp only [rowB, List.range_succ_eq_map, List.map_cons, List.map_map]; rfl
  rw [this, ← ih]; simp only [repN, appN_eq]
theorem a_msl_nn {h : H} {by_ n : Nat} {z : List V} (h1 : n * by_ ≤ 1099511627776) (h2 : n ≤ 1099511627776) :
  a_msl h by_ z (.int .i64 (n : Int)) (.int .i64 (n : Int)) = some (.sl h.next 0 n (.fix n), h.add (.cells .rw (repN n z))) := by
 have e1 : Nat.ble (n * by_) 1099511627776 = true := by simpa using h1
 have e2 : Nat.ble n 1099511627776 = true := by simpa using h2
 have e3 : Nat.ble n n = true := by simp
 simp only [a_msl, nat_cst, e1, e2, e3, og_true, lf_eq]
namespace Tryz
def mats (t : Tb) (n : Nat) : List (List (List V)) := (List.range n).map fun p => (rowB (fun q => MM t p q) t.pieces.length).map fun v => [v]
theorem map_sing (l : List V) : (l.map fun v => [v]).flatten = l := by
 induction l with
 | nil => rfl
 | cons a l ih => simp [ih]
set_option maxHeartbeats 2000000 in
theorem Matches_ev {h : H} {v : V} {t : Tb} (hw : h.wf) (ht : TbIs h v t) (g : Good t) (Q : V → H → Prop) (q : ∀ x h', LsOwn h h' x (mats t t.pieces.length) → Q x h') : Ev fnG fastA (.fn 69 [] []) [v] h Q := by
 have ht0 := ht
 obtain ⟨E, L, P, rfl, aE, aL, aP⟩ := ht
 have hlP := aP.lenE
 have gp := g.pieces
 refine Ev_body (fd := c69) rfl rfl rfl ?_
 have s1 : h.Sub (h.add (.cells .rw [E, L, P])) := (by repeat (first | assumption | exact H.Sub.refl (by assumption) | refine H.Sub.add ?_ _ | refine H.Sub.set ?_ (by first | omega | (simp only [H.next_add, H.next_set, H.next_del] <;> omega)) (by first | omega | (simp only [H.next_add, H.next_set, H.next_del] <;> omega)) (by assumption) _))
 have g1 : (h.add (.cells .rw [E, L, P])).cells h.next = some [E, L, P] := cells_add_new rfl
 simp -implicitDefEqProofs (maxSteps := 999999) (disch := first | with_reducible rfl | omega | (simp only [nA, nS, nD] <;> omega) | fail) only [c69, go_sem]
 generalize h.add (.cells .rw [E, L, P]) = h5 at s1 g1 ⊢
 refine W_count t.pieces.length (fun c s => ∃ tm hh y, s = ⟨tm, hh, []⟩ ∧ LsOwn h5 hh y (mats t c) ∧ h5.Sub hh ∧ (Opd.t 1).ev tm = .ptr h.next 0 ∧ (Opd.t 3).ev tm = y ∧ (Opd.t 4).ev tm = .int .i64 (c : Int))
  ?_ ?_ (i := 0) (Nat.zero_le _) ⟨_, _, .nils, rfl, LsOwn.nil (H.Sub.refl s1.wf), H.Sub.refl s1.wf, (by simp [ev_c, ev_put] <;> rfl), (by simp [ev_c, ev_put] <;> rfl), (by simp [ev_c, ev_put] <;> rfl)⟩
 ·rintro c s hc ⟨tm, hh, y, rfl, oy, sh, t1, t3, t4⟩
  have hc' : (c : Int) < (t.pieces.length : Int) := by omega
  have hm := a_msl_nn (h := hh) (by_ := 1) (n := t.pieces.length) (z := [.bool false]) (by omega) (by omega)
  rw [repN_false] at hm
  have sB := (H.Sub.refl sh.wf).add (.cells .rw (rowB (fun _ => false) t.pieces.length))
  have gB : (hh.add (.cells .rw (rowB (fun _ => false) t.pieces.length))).get hh.next = some (.cells .rw (rowB (fun _ => false) t.pieces.length)) := get_add_new rfl
  have oB := oy.mono sB
  have shB := sh.trans sB
  have lh := sh.next
  have nB := H.next_add hh (.cells .rw (rowB (fun _ => false) t.pieces.length))
  simp -implicitDefEqProofs (maxSteps := 999999) (disch := first | with_reducible rfl | omega | (simp only [nA, nS, nD] <;> omega) | fail) only [go_sem, t1, t3, t4, hc', sh.cells g1, hlP, hm]
  generalize (hh.add (.cells .rw (rowB (fun _ => false) t.pieces.length))) = hB at sB gB oB shB nB ⊢
  obtain ⟨bB, ebB⟩ : ∃ bB, bB = hh.next := ⟨_, rfl⟩
  rw [← ebB] at gB ⊢
  refine W.mono (Q := fun x1 s => x1 = .ext 2 ∧ ∃ tm hz, s = ⟨tm, hz, []⟩ ∧ Keeps (fun b => b = bB) hB hz ∧ h5.Sub hz ∧ hz.get bB = some (.cells .rw (rowB (fun q => MM t c q) t.pieces.length)) ∧ (Opd.t 1).ev tm = .ptr h.next 0 ∧ (Opd.t 3).ev tm = y ∧ (Opd.t 4).ev tm = .int .i64 (c : Int) ∧ (Opd.t 5).ev tm = .sl bB 0 t.pieces.length (.fix t.pieces.length))
   (W_count t.pieces.length (fun k s => ∃ tm hz, s = ⟨tm, hz, []⟩ ∧ Keeps (fun b => b = bB) hB hz ∧ h5.Sub hz ∧ hz.get bB = some (.cells .rw (rowB (fun q => decide (q < k) && MM t c q) t.pieces.length)) ∧ (Opd.t 1).ev tm = .ptr h.next 0 ∧ (Opd.t 3).ev tm = y ∧ (Opd.t 4).ev tm = .int .i64 (c : Int) ∧ (Opd.t 5).ev tm = .sl bB 0 t.pieces.length (.fix t.pieces.length) ∧ (Opd.t 6).ev tm = .int .i64 (k : Int))
   ?_ ?_ (i := 0) (Nat.zero_le _) ⟨_, _, rfl, Keeps.refl _ _, shB, by rw [gB]; simp [rowB], (by simp [ev_c, ev_put, t1] <;> rfl), (by simp [ev_c, ev_put, t3] <;> rfl), (by simp [ev_c, ev_put, t4] <;> rfl), (by simp [ev_c, ev_put] <;> rfl), (by simp [ev_c, ev_put] <;> rfl)⟩) fun x1 s hx1 => ?_
  ·rintro k s hk ⟨tm, hz, rfl, kz, sh, gb, t1, t3, t4, t5, t6⟩
   have hk' : (k : Int) < (t.pieces.length : Int) := by omega
   have ge1 := sh.cells g1
   obtain ⟨bP, oP, cP, csP, eP, hcP, hqP, hgP, _, _⟩ := (aP.mono (s1.trans sh)).at hc
   obtain ⟨bR, oR, cR, csR, eR, hcR, hqR, hgR, _, _⟩ := (aP.mono (s1.trans sh)).at hk
   have hal := refAlike_ev (h := hz) sh.wf (ht0.mono (s1.trans sh)) g (g.piece _ (List.getElem_mem hc)) (g.piece _ (List.getElem_mem hk))
   simp only [encD] at hal hgP hgR
   simp -implicitDefEqProofs (maxSteps := 999999) (disch := first | with_reducible rfl | omega | (simp only [nA, nS, nD] <;> omega) | fail) only [go_sem, t1, t3, t4, t5, t6, hk', ge1, hqP (nat_cst c), hcP, hgP, hqR (nat_cst k), hcR, hgR, evQ_ld]
   refine hal _ fun h9 s9 => ?_
   have emm : alike t t.pieces[c] t.pieces[k] = MM t c k := by
    rw [alike_comm g]; unfold MM matchB; rw [List.getElem?_eq_getElem hk, List.getElem?_eq_getElem hc]
   rw [emm]
   have gb9 := s9.get gb
   have hiad : q_iad 1 (.sl bB 0 t.pieces.length (.fix t.pieces.length)) (.int .i64 (k : Int)) = some (.ptr bB k) := by
    have e : Nat.blt k t.pieces.length = true := by rw [Nat.blt_eq]; exact hk
    simp only [q_iad, nat_cst, e, og_true, Nat.mul_one, Nat.zero_add]
   have hput := rowB_put (f := fun q => decide (q < k) && MM t c q) hk (MM t c k)
   have er : rowB (fun i => if i = k then MM t c k else decide (i < k) && MM t c i) t.pieces.length = rowB (fun q => decide (q < k + 1) && MM t c q) t.pieces.length := by
    unfold rowB
    refine List.map_congr_left fun j hj => ?_
    congr 1
    dsimp only
    by_cases e : j = k
    ·subst e; rw [if_pos rfl]; simp
    ·rw [if_neg e]
     have : decide (j < k) = decide (j < k + 1) := by
      rw [Bool.eq_iff_iff]; simp; omega
     rw [this]
   rw [er] at hput
   have lb := s9.wf _ _ gb9
   have sset := (sh.trans s9).set (b := bB) (by omega) lb s1.wf (.cells .rw (rowB (fun q => decide (q < k + 1) && MM t c q) t.pieces.length))
   have kset := ((kz.trans (Keeps.of s9 (fun _ => False))).trans (Keeps.set h9 bB (.cells .rw (rowB (fun q => decide (q < k + 1) && MM t c q) t.pieces.length)))).mono (T := fun b => b = bB) (by
    rintro b ((h | h) | h)
    ·exact h
    ·exact h.elim
    ·exact h)
   simp -implicitDefEqProofs (maxSteps := 999999) (disch := first | with_reducible rfl | omega | (simp only [nA, nS, nD] <;> omega) | fail) only [go_sem, t1, t3, t4, t5, t6, hk', ge1, hqP (nat_cst c), hcP, hgP, hqR (nat_cst k), hcR, hgR, evQ_ld, hiad, gb9, hput, wr_succ]
   exact ⟨_, _, rfl, kset, sset, get_set_same rfl, (by simp [ev_c, ev_put, t1] <;> rfl), (by simp [ev_c, ev_put, t3] <;> rfl), (by simp [ev_c, ev_put, t4] <;> rfl), (by simp [ev_c, ev_put, t5] <;> rfl), (by simp [ev_c, ev_put] <;> rfl)⟩
  ·rintro s ⟨tm, hz, rfl, kz, sh, gb, t1, t3, t4, t5, t6⟩
   simp -implicitDefEqProofs (maxSteps := 999999) (disch := first | with_reducible rfl | omega | (simp only [nA, nS, nD] <;> omega) | fail) only [go_sem, t1, t3, t4, t5, t6, Int.lt_irrefl]
   refine ⟨_, _, rfl, kz, sh, ?_, (by simp [ev_c, ev_put, t1] <;> rfl), (by simp [ev_c, ev_put, t3] <;> rfl), (by simp [ev_c, ev_put, t4] <;> rfl), (by simp [ev_c, ev_put, t5] <;> rfl)⟩
   rw [gb]
   congr 2
   unfold rowB
   refine List.map_congr_left fun j hj => ?_
   dsimp only
   rw [decide_eq_true (List.mem_range.1 hj), Bool.true_and]
  obtain ⟨rfl, tm, hz, rfl, kz, shz, gb, t1, t3, t4, t5⟩ := hx1
  have kO := (Keeps.of sB (fun _ => False)).trans kz
  have oz := oy.keep kO shz fun b h1 h2 h3 => by
   rcases h3 with h3 | h3
   ·exact h3
   ·omega
  have lb := shz.wf _ _ gb
  have ov : OwnC h5 hz (.sl bB 0 t.pieces.length (.fix t.pieces.length)) 1 ((rowB (fun q => MM t c q) t.pieces.length).map fun v => [v]) :=
   ⟨shz, by simp, .inr (.inr ⟨bB, t.pieces.length, [], by simp [rowB_len], by omega, lb, by rw [map_sing, List.append_nil]; exact gb, by simp [rowB_len], by simp [rowB_len]⟩)⟩
  have sC := (H.Sub.refl shz.wf).add (.cells .rw [.sl bB 0 t.pieces.length (.fix t.pieces.length)])
  have own1 : SlAt (hz.add (.cells .rw [.sl bB 0 t.pieces.length (.fix t.pieces.length)])) (.sl hz.next 0 1 (.fix 1)) 1 [[.sl bB 0 t.pieces.length (.fix t.pieces.length)]] := SlAt.new _ rfl rfl (by simp) (by simp) (by simp)
  have hlm : (mats t c).length = c := by simp [mats]
  have dv : ∀ b, blkOf (.sl bB 0 t.pieces.length (.fix t.pieces.length)) b → ¬ blkOf y b := fun b hb hy => by
   have e : b = bB := by obtain ⟨_, _, _, e⟩ := hb; cases e; rfl
   obtain ⟨xs, a1, _⟩ := oy
   have := (a1.blk hy).2.1
   omega
  simp -implicitDefEqProofs (maxSteps := 999999) (disch := first | with_reducible rfl | omega | (simp only [nA, nS, nD] <;> omega) | fail) only [go_sem, t1, t3, t4, t5]
  refine (oz.mono sC).push s1.wf (by omega) (ov.mono sC) dv own1 fun y' h9 o9 k9 => ?_
  have sh9 : h5.Sub h9 := by
   obtain ⟨_, a1, _⟩ := o9
   exact a1.1
  have em : mats t (c + 1) = mats t c ++ [(rowB (fun q => MM t c q) t.pieces.length).map fun v => [v]] := by
   simp [mats, List.range_succ]
  simp -implicitDefEqProofs (maxSteps := 999999) (disch := first | with_reducible rfl | omega | (simp only [nA, nS, nD] <;> omega) | fail) only [go_sem, t1, t3, t4, t5, wr_succ]
  exact ⟨_, _, y', rfl, by rw [em]; exact o9, sh9, (by simp [ev_c, ev_put, t1] <;> rfl), (by simp [ev_c, ev_put] <;> rfl), (by simp [ev_c, ev_put] <;> rfl)⟩
 ·rintro s ⟨tm, hh, y, rfl, oy, sh, t1, t3, t4⟩
  simp -implicitDefEqProofs (maxSteps := 999999) (disch := first | with_reducible rfl | omega | (simp only [nA, nS, nD] <;> omega) | fail) only [go_sem, t1, t3, t4, sh.cells g1, hlP, Int.lt_irrefl]
  exact q y _ (oy.base s1)
end Tryz
end Go.Ab
set_option linter.unusedSimpArgs false
set_option linter.unusedVariables false
namespace Go.Ab
def rowI (f : Nat → Int) (n : Nat) : List V := (List.range n).map fun j => .int .i64 (f j)
namespace Tryz
section
variable {t : Tb} {s : Nat} {f : Nat → Int} {d p q : Nat}
end
theorem mats_at {t : Tb} (gp : t.pieces.length ≤ 9) {h0 h : H} {x : V} (a : LsOwn h0 h x (mats t t.pieces.length)) {p q : Nat} (hp : p < t.pieces.length) (hq : q < t.pieces.length) :
  ∃ b o cs row b2 o2 cs2, q_iad 1 x (.int .i64 (p : Int)) = some (.ptr b o) ∧ h.cells b = some cs ∧ nth o cs = some row ∧ q_iad 1 row (.int .i64 (q : Int)) = some (.ptr b2 o2) ∧ h.cells b2 = some cs2 ∧ nth o2 cs2 = some (.bool (MM t p q)) ∧ q_len x = some (.int .i64 (t.pieces.length : Int)) := by
 obtain ⟨xs, a1, a2, a3⟩ := a
 have hm : (mats t t.pieces.length).length = t.pieces.length := by simp [mats]
 rw [hm] at a2
 have sx := a1.sl (by simp only [List.length_map]; omega)
 obtain ⟨b, o, c, cs, e1, e2, e3, _, _, e4⟩ := sx.at (k := p) (by omega)
 have h1 := (a3 p (by omega) (by omega)).1
 have hr : (mats t t.pieces.length)[p]'(by omega) = (rowB (fun q => MM t p q) t.pieces.length).map fun v => [v] := by simp [mats]
 rw [hr] at h1
 have sr := h1.sl (by simp [rowB_len]; omega)
 obtain ⟨b2, o2, c2, cs2, f1, f2, f3, _, _, f4⟩ := sr.at (k := q) (by rw [rowB_len]; exact hq)
 have f5 := f4 (by omega)
 have e5 := e4 (by omega)
 have hl := sx.lenE
 rw [a2] at hl
 refine ⟨b, o + p * 1, cs, xs[p], b2, o2 + q * 1, cs2, e3 (nat_cst p), e2, e5, f3 (nat_cst q), f2, ?_, hl⟩
 rw [f5]
 simp [rowB]
end Tryz
end Go.Ab
