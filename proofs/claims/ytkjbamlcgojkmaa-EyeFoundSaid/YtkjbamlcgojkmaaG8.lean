/- EyeFound. Some eyes, as the law tries them; which lists rise; slices.Compare. slices.Compact, rising, Enough. Witness, Needed. The law's own enough, and sorting. The law's own sorting. What is found is a sorting as the law has it; no fewer eyes. Plain. slices.Delete of an eye; tables without an eye (plain). Eyes that are needed. Plain. -/
import Derived.Test.YtkjbamlcgojkmaaG6
import Derived.Test.YtkjbamlcgojkmaaG5
import Derived.Test.YtkjbamlcgojkmaaG7
set_option linter.unusedSimpArgs false
set_option linter.unusedVariables false
namespace Go.Ab.Try
open Go.Ab.Silk (Inc lexlt)
theorem some_ev {h0 h : H} {p : Nat} {x : V} {bs : List Int} {T : Int} (hs : h0.Sub h) (hw0 : h0.wf) (hx : SlAt h0 x 1 (bs.map encU8)) (hp0 : h0.next ≤ p) (hp : SpAt h p x T) (hT : 0 ≤ T ∧ T ≤ 100000000) {n : Nat} (hn : n ≤ 100) (Q : V → H → Prop)
    (q : ∀ l y h', Inc n 0 l → h0.Sub h' → SpAt h' p x (T + n) → Keeps (fun b => b = p) h h' → SlAt h' y 1 (l.map encI) → (∀ b, blkOf y b → h.next ≤ b) → Q y h') : Ev fnG fastA (.fn 66 [] []) [.ptr p 0, .int .i64 (n : Int)] h Q := by
  have hw := hs.wf
  have hlp : p < h.next := by obtain ⟨st, g⟩ := hp; exact hw _ _ g
  refine Ev_body (fd := c66) rfl rfl rfl ?_
  simp -implicitDefEqProofs (maxSteps := 999999) (disch := first | with_reducible rfl | omega | (simp only [nA, nS, nD] <;> omega) | fail) only [c66, go_sem]
  refine W_count n (fun i s => ∃ tm h' y l, s = ⟨tm, h', []⟩ ∧ Inc i 0 l ∧ h0.Sub h' ∧ SpAt h' p x (T + i) ∧ Keeps (fun c => c = p ∨ h.next ≤ c) h h' ∧ OwnSl h0 h' y 1 (l.map encI) ∧ (∀ b, blkOf y b → h.next ≤ b) ∧ (Opd.t 0).ev tm = .ptr p 0 ∧ (Opd.t 5).ev tm = y ∧ (Opd.t 7).ev tm = .int .i64 (n : Int) ∧ (Opd.t 8).ev tm = .int .i64 (i : Int))
    ?_ ?_ (i := 0) (Nat.zero_le _) ⟨_, _, .nils, [], rfl, trivial, hs, by simpa using hp, Keeps.refl _ _, OwnSl.nil hs 1, fun b hb => absurd hb (nblk b), (by simp [ev_c, ev_put] <;> rfl), (by simp [ev_c, ev_put] <;> rfl), (by simp [ev_c, ev_put] <;> rfl), (by simp [ev_c, ev_put] <;> rfl)⟩
  · rintro i s hi ⟨tm, h', y, l, rfl, inc, s', sp, kk, oy, ny, t0, t5, t7, t8⟩
    have hi' : (i : Int) < (n : Int) := by omega
    have hl := inc.len (by omega)
    simp -implicitDefEqProofs (maxSteps := 999999) (disch := first | with_reducible rfl | omega | (simp only [nA, nS, nD] <;> omega) | fail) only [go_sem, t0, t5, t7, t8, hi']
    refine Once_ev s' hw0 hx hp0 sp (by omega) (by omega) _ fun tt h1 s1 p1 k1 n1 => ?_
    have e1 : T + (i : Int) + 1 = T + ((i + 1 : Nat) : Int) := by omega
    rw [e1] at p1
    have oy1 := oy.keep k1 s1 fun b hb e => by subst e; exact oy.ne (spGet sp) hb
    have kk1 : Keeps (fun c => c = p ∨ h.next ≤ c) h h1 := (kk.trans k1).mono fun c h => by rcases h with h | h; exact h; exact .inl h
    have up : ∀ l, Inc i 0 l → Inc ((i + 1 : Nat) : Int) 0 l := fun l inc => Inc.of (Inc.pw inc) fun x hx => by have := inc.mem x hx; omega
    cases tt with
    | false =>
      simp -implicitDefEqProofs (maxSteps := 999999) (disch := first | with_reducible rfl | omega | (simp only [nA, nS, nD] <;> omega) | fail) only [go_sem, t0, t5, t7, t8, wr_succ]
      exact ⟨_, _, y, l, rfl, up l inc, s1, p1, kk1, oy1, ny, (by simp [ev_c, ev_put, t0] <;> rfl), (by simp [ev_c, ev_put, t5] <;> rfl), (by simp [ev_c, ev_put, t7] <;> rfl), (by simp [ev_c, ev_put] <;> rfl)⟩
    | true =>
      have sC := (H.Sub.refl s1.wf).add (.cells .rw [.int .i64 (i : Int)])
      have lk := kk1.1
      simp -implicitDefEqProofs (maxSteps := 999999) (disch := first | with_reducible rfl | omega | (simp only [nA, nS, nD] <;> omega) | fail) only [go_sem, t0, t5, t7, t8]
      refine (oy1.mono sC).app1 (by_ := 8) (r := encI (i : Int)) hw0 rfl (by omega) own1_lit rfl (by simp only [List.length_map]; omega) (by simp only [List.length_map]; omega) fun h2 o2 k2 n2 => ?_
      rw [H.next_add, List.length_map] at o2
      have e2 : l.map encI ++ [encI (i : Int)] = (l ++ [(i : Int)]).map encI := by simp
      rw [e2] at o2
      have k02 : Keeps (fun c => c = p ∨ h.next ≤ c) h h2 := ((kk1.trans (Keeps.of sC fun _ => False)).trans k2).mono fun c h => by
        rcases h with (h | h) | h
        · exact h
        · exact h.elim
        · exact .inr (ny c h)
      have p2 := (p1.mono sC).keep k2 fun hb => by have := ny _ hb; omega
      simp -implicitDefEqProofs (maxSteps := 999999) (disch := first | with_reducible rfl | omega | (simp only [nA, nS, nD] <;> omega) | fail) only [go_sem, t0, t5, t7, t8, wr_succ]
      exact ⟨_, _, _, l ++ [(i : Int)], rfl, Inc.of (by
        rw [List.pairwise_append]
        exact ⟨Inc.pw inc, by simp, fun a ha b hb => by rw [List.mem_singleton] at hb; subst hb; exact (inc.mem a ha).2⟩) (fun a ha => by
        rcases List.mem_append.1 ha with h | h
        · have := inc.mem a h; omega
        · rw [List.mem_singleton] at h; omega), o2.1, p2, k02, o2, fun b hb => by have := fresh hb; omega, (by simp [ev_c, ev_put, t0] <;> rfl), (by simp [ev_c, ev_put] <;> rfl), (by simp [ev_c, ev_put, t7] <;> rfl), (by simp [ev_c, ev_put] <;> rfl)⟩
  · rintro s ⟨tm, h', y, l, rfl, inc, s', sp, kk, oy, ny, t0, t5, t7, t8⟩
    have hl := inc.len (by omega)
    simp -implicitDefEqProofs (maxSteps := 999999) (disch := first | with_reducible rfl | omega | (simp only [nA, nS, nD] <;> omega) | fail) only [go_sem, t0, t5, t7, t8, Int.lt_irrefl]
    exact q l y h' inc s' sp (kk.low hw (Nat.le_refl _)) (oy.sl (by simp only [List.length_map]; omega)) ny
theorem isNaN_eq (a : Int) (h : H) (R : V → H → Prop) : Ev fnG fastA (.fn 153 [] []) [.int .i64 a] h R = R (.bool false) h := by
  refine Ev.det (Ev_body (fd := c153) rfl rfl rfl ?_) R
  simp -implicitDefEqProofs (maxSteps := 999999) (disch := first | with_reducible rfl | omega | (simp only [nA, nS, nD] <;> omega) | fail) only [c153, go_sem, ne_eq, not_true_eq_false, not_false_eq_true]
theorem less_eq (a b : Int) (h : H) (Q : V → H → Prop) : Ev fnG fastA (.fn 158 [] []) [.int .i64 a, .int .i64 b] h Q = Q (.bool (decide (a < b))) h := by
  refine Ev.det (Ev_body (fd := c158) rfl rfl rfl ?_) Q
  simp -implicitDefEqProofs (maxSteps := 999999) (disch := first | with_reducible rfl | omega | (simp only [nA, nS, nD] <;> omega) | fail) only [c158, go_sem, isNaN_eq]
def cmpI (a b : Int) : Int := if a < b then -1 else if b < a then 1 else 0
theorem compare_eq (a b : Int) (h : H) (Q : V → H → Prop) : Ev fnG fastA (.fn 129 [] []) [.int .i64 a, .int .i64 b] h Q = Q (.int .i64 (cmpI a b)) h := by
  refine Ev.det (Ev_body (fd := c129) rfl rfl rfl ?_) Q
  unfold cmpI
  by_cases h1 : a < b
  · rw [if_pos h1]
    simp -implicitDefEqProofs (maxSteps := 999999) (disch := first | with_reducible rfl | omega | (simp only [nA, nS, nD] <;> omega) | fail) only [c129, go_sem, isNaN_eq, h1]
  · rw [if_neg h1]
    by_cases h2 : b < a
    · rw [if_pos h2]
      simp -implicitDefEqProofs (maxSteps := 999999) (disch := first | with_reducible rfl | omega | (simp only [nA, nS, nD] <;> omega) | fail) only [c129, go_sem, isNaN_eq, h1, h2]
    · rw [if_neg h2]
      simp -implicitDefEqProofs (maxSteps := 999999) (disch := first | with_reducible rfl | omega | (simp only [nA, nS, nD] <;> omega) | fail) only [c129, go_sem, isNaN_eq, h1, h2]
def cmpL : List Int → List Int → Int
  | [], [] => 0
  | [], _ :: _ => -1
  | _ :: _, [] => 1
  | a :: l, b :: r => if cmpI a b ≠ 0 then cmpI a b else cmpL l r
theorem cmpL_lex : ∀ {l r : List Int}, l.length = r.length → (cmpL l r < 0 ↔ lexlt l r = true)
  | [], [], _ => by simp [cmpL, lexlt]
  | [], _ :: _, h => by simp at h
  | _ :: _, [], h => by simp at h
  | a :: l, b :: r, h => by
    have ih := cmpL_lex (l := l) (r := r) (by simpa using h)
    simp only [cmpL, lexlt]
    by_cases e : a = b
    · subst e
      have : cmpI a a = 0 := by unfold cmpI; rw [if_neg (by omega), if_neg (by omega)]
      rw [this, if_neg (by omega), if_pos rfl]; exact ih
    · rw [if_neg e, decide_eq_true_eq]
      unfold cmpI
      by_cases h1 : a < b
      · rw [if_pos h1, if_pos (by omega)]; omega
      · rw [if_neg h1, if_pos (show b < a by omega), if_pos (by omega)]; omega
theorem Compare_ev {h : H} {x y : V} {l r : List Int} (hx : SlAt h x 1 (l.map encI)) (hy : SlAt h y 1 (r.map encI)) (Q : V → H → Prop) : Ev fnG fastA (.fn 68 [] []) [x, y] h Q = Q (.int .i64 (cmpL l r)) h := by
  have hlx := hx.lenE
  have hly := hy.lenE
  have hbx := hx.boundE
  refine Ev.det (Ev_body (fd := c68) rfl rfl rfl ?_) Q
  simp -implicitDefEqProofs (maxSteps := 999999) (disch := first | with_reducible rfl | omega | (simp only [nA, nS, nD] <;> omega) | fail) only [c68, go_sem, hlx]
  refine W_count l.length (fun i s => ∃ tm, s = ⟨tm, h, []⟩ ∧ cmpL l r = cmpL (l.drop i) (r.drop i) ∧ i ≤ r.length ∧ (Opd.t 0).ev tm = x ∧ (Opd.t 1).ev tm = y ∧ (Opd.t 9).ev tm = x ∧ (Opd.t 10).ev tm = .int .i64 (l.length : Int) ∧ (Opd.t 11).ev tm = .int .i64 (i : Int))
    ?_ ?_ (i := 0) (Nat.zero_le _) ⟨_, rfl, rfl, Nat.zero_le _, (by simp [ev_c, ev_put] <;> rfl), (by simp [ev_c, ev_put] <;> rfl), (by simp [ev_c, ev_put] <;> rfl), (by simp [ev_c, ev_put] <;> rfl), (by simp [ev_c, ev_put] <;> rfl)⟩
  · rintro i s hi ⟨tm, rfl, hc, hr, t0, t1, t9, t10, t11⟩
    have hi' : (i : Int) < (l.length : Int) := by omega
    obtain ⟨b1, o1, cs1, m1, m2, m3⟩ : ∃ b o cs, q_iad 1 x (.int .i64 (i : Int)) = some (.ptr b o) ∧ h.cells b = some cs ∧ nth o cs = some (.int .i64 l[i]) := by
      obtain ⟨b, o, c, cs, e1, e2, e3, _, _, e4⟩ := hx.at hi
      have e5 := e4 (by omega)
      exact ⟨b, o + i * 1, cs, e3 (nat_cst i), e2, by rw [e5]; rfl⟩
    have el : l.drop i = l[i] :: l.drop (i + 1) := List.drop_eq_getElem_cons hi
    by_cases hir : i < r.length
    · obtain ⟨b2, o2, cs2, p1, p2, p3⟩ : ∃ b o cs, q_iad 1 y (.int .i64 (i : Int)) = some (.ptr b o) ∧ h.cells b = some cs ∧ nth o cs = some (.int .i64 r[i]) := by
        obtain ⟨b, o, c, cs, e1, e2, e3, _, _, e4⟩ := hy.at hir
        have e5 := e4 (by omega)
        exact ⟨b, o + i * 1, cs, e3 (nat_cst i), e2, by rw [e5]; rfl⟩
      have er : r.drop i = r[i] :: r.drop (i + 1) := List.drop_eq_getElem_cons hir
      have c1 : ¬ (r.length : Int) ≤ (i : Int) := by omega
      rw [el, er] at hc
      simp only [cmpL] at hc
      by_cases hz : cmpI l[i] r[i] = 0
      · rw [if_neg (by simp [hz])] at hc
        have dz : decide (cmpI l[i] r[i] ≠ 0) = false := by simp [hz]
        simp -implicitDefEqProofs (maxSteps := 999999) (disch := first | with_reducible rfl | omega | (simp only [nA, nS, nD] <;> omega) | fail) only [go_sem, t0, t1, t9, t10, t11, hi', m1, m2, m3, hly, c1, p1, p2, p3, compare_eq, dz, wr_succ]
        exact ⟨_, rfl, hc, by omega, (by simp [ev_c, ev_put, t0] <;> rfl), (by simp [ev_c, ev_put, t1] <;> rfl), (by simp [ev_c, ev_put, t9] <;> rfl), (by simp [ev_c, ev_put, t10] <;> rfl), (by simp [ev_c, ev_put] <;> rfl)⟩
      · rw [if_pos hz] at hc
        have dz : decide (cmpI l[i] r[i] ≠ 0) = true := decide_eq_true hz
        simp -implicitDefEqProofs (maxSteps := 999999) (disch := first | with_reducible rfl | omega | (simp only [nA, nS, nD] <;> omega) | fail) only [go_sem, t0, t1, t9, t10, t11, hi', m1, m2, m3, hly, c1, p1, p2, p3, compare_eq, dz, hc]
    · have c1 : (r.length : Int) ≤ (i : Int) := by omega
      have er : r.drop i = [] := List.drop_eq_nil_of_le (by omega)
      rw [el, er] at hc
      simp only [cmpL] at hc
      simp -implicitDefEqProofs (maxSteps := 999999) (disch := first | with_reducible rfl | omega | (simp only [nA, nS, nD] <;> omega) | fail) only [go_sem, t0, t1, t9, t10, t11, hi', m1, m2, m3, hly, c1, hc]
  · rintro s ⟨tm, rfl, hc, hr, t0, t1, t9, t10, t11⟩
    have el : l.drop l.length = [] := List.drop_eq_nil_of_le (Nat.le_refl _)
    rw [el] at hc
    by_cases hlt : (l.length : Int) < (r.length : Int)
    · have er : r.drop l.length = r[l.length]'(by omega) :: r.drop (l.length + 1) := List.drop_eq_getElem_cons (by omega)
      rw [er] at hc
      simp only [cmpL] at hc
      simp -implicitDefEqProofs (maxSteps := 999999) (disch := first | with_reducible rfl | omega | (simp only [nA, nS, nD] <;> omega) | fail) only [go_sem, t0, t1, t9, t10, t11, Int.lt_irrefl, hlx, hly, hlt, hc]
    · have er : r.drop l.length = [] := List.drop_eq_nil_of_le (by omega)
      rw [er] at hc
      simp only [cmpL] at hc
      simp -implicitDefEqProofs (maxSteps := 999999) (disch := first | with_reducible rfl | omega | (simp only [nA, nS, nD] <;> omega) | fail) only [go_sem, t0, t1, t9, t10, t11, Int.lt_irrefl, hlx, hly, hlt, hc]
theorem adj_pw {R : Int → Int → Prop} (tr : ∀ a b c, R a b → R b c → R a c) : ∀ {l : List Int}, (∀ i (h : i + 1 < l.length), R l[i] l[i + 1]) → l.Pairwise R
  | [], _ => List.Pairwise.nil
  | [a], _ => by simp
  | a :: b :: l, h => by
    have ih := adj_pw tr (l := b :: l) fun i hi => h (i + 1) (by simpa using hi)
    rw [List.pairwise_cons] at ih ⊢
    have hab : R a b := h 0 (by simp)
    exact ⟨fun x hx => by
      rcases List.mem_cons.1 hx with rfl | hx
      · exact hab
      · exact tr _ _ _ hab (ih.1 x hx), List.pairwise_cons.2 ih⟩
theorem isSorted_ev {h : H} {x : V} {l : List Int} (hx : SlAt h x 1 (l.map encI)) (Q : V → H → Prop) : Ev fnG fastA (.fn 151 [] []) [x] h Q = Q (.bool (decide (l.Pairwise (· ≤ ·)))) h := by
  have hlx := hx.lenE
  have hbd := hx.boundE
  refine Ev.det (Ev_body (fd := c151) rfl rfl rfl ?_) Q
  have ew0 : wr .i64 ((l.length : Int) - 1) = (l.length : Int) - 1 := wr_in (by omega) (by omega)
  simp -implicitDefEqProofs (maxSteps := 999999) (disch := first | with_reducible rfl | omega | (simp only [nA, nS, nD] <;> omega) | fail) only [c151, go_sem, hlx]
  refine W_loop (fun k s => ∃ (tm : Go.Ab.T V) (i : Int), s = ⟨tm, h, []⟩ ∧ k = (i + 1).toNat ∧ -1 ≤ i ∧ i < l.length ∧ (i = -1 → l.length = 0) ∧ (∀ j (hj : j + 1 < l.length), i < ((j + 1 : Nat) : Int) → l[j] ≤ l[j + 1]) ∧ (Opd.t 0).ev tm = x ∧ (Opd.t 3).ev tm = .int .i64 i) ?_ l.length _ ⟨_, (l.length : Int) - 1, rfl, by omega, by omega, by omega, by omega, fun j hj h0 => by omega, (by simp [ev_c, ev_put] <;> rfl), (by simp [ev_c, ev_put, ew0] <;> rfl)⟩
  rintro k s ⟨tm, i, rfl, hk, i0, i1, i2, hord, t0, t3⟩
  by_cases hi : 0 < i
  · obtain ⟨n, rfl⟩ : ∃ n : Nat, i = ((n + 1 : Nat) : Int) := ⟨(i - 1).toNat, by omega⟩
    have hn1 : n + 1 < l.length := by omega
    have hn0 : n < l.length := by omega
    obtain ⟨b1, o1, c1, cs1, rfl, hc1, hq1, hg1, hn1', hn01⟩ := hx.at hn1
    obtain ⟨b2, o2, c2, cs2, e2, hc2, hq2, hg2, hn2', hn02⟩ := hx.at hn0
    have ew : wr .i64 (((n + 1 : Nat) : Int) - 1) = (n : Int) := by rw [wr_in (by omega) (by omega)]; omega
    by_cases hlt : l[n + 1] < l[n]
    · have hf : decide (l.Pairwise (· ≤ ·)) = false := decide_eq_false fun hp => by
        have := List.pairwise_iff_getElem.1 hp n (n + 1) hn0 hn1 (by omega); omega
      have dl : decide (l[n + 1] < l[n]) = true := decide_eq_true hlt
      simp -implicitDefEqProofs (maxSteps := 999999) (disch := first | with_reducible rfl | omega | (simp only [nA, nS, nD] <;> omega) | fail) only [go_sem, t0, t3, hi, hq1 (nat_cst (n + 1)), hc1, hn01 (by omega), ew, hq2 (nat_cst n), hc2, hn02 (by omega), encI, less_eq, dl, hf]
    · have dl : decide (l[n + 1] < l[n]) = false := decide_eq_false hlt
      simp -implicitDefEqProofs (maxSteps := 999999) (disch := first | with_reducible rfl | omega | (simp only [nA, nS, nD] <;> omega) | fail) only [go_sem, t0, t3, hi, hq1 (nat_cst (n + 1)), hc1, hn01 (by omega), ew, hq2 (nat_cst n), hc2, hn02 (by omega), encI, less_eq, dl]
      exact ⟨n + 1, by omega, _, (n : Int), rfl, by omega, by omega, by omega, by omega, fun j hj h0 => by
        by_cases e : j = n
        · subst e; omega
        · exact hord j hj (by omega), (by simp [ev_c, ev_put, t0] <;> rfl), (by simp [ev_c, ev_put, ew] <;> rfl)⟩
  · have ht : decide (l.Pairwise (· ≤ ·)) = true := decide_eq_true (adj_pw (R := fun a b => a ≤ b) (fun a b c h1 h2 => Int.le_trans h1 h2) fun j hj => hord j hj (by omega))
    simp -implicitDefEqProofs (maxSteps := 999999) (disch := first | with_reducible rfl | omega | (simp only [nA, nS, nD] <;> omega) | fail) only [go_sem, t0, t3, hi, ht]
end Go.Ab.Try
set_option linter.unusedSimpArgs false
set_option linter.unusedVariables false
namespace Go.Ab
theorem nth_iv {L : List Int} {i : Nat} (h : i < L.length) : nth i (L.map iv) = some (.int .i64 L[i]) := by
  rw [nth_eq, List.getElem?_map, List.getElem?_eq_getElem h]; rfl
theorem put_iv {L : List Int} {i : Nat} (h : i < L.length) (v : Int) : putN i [.int .i64 v] (L.map iv) = some ((L.set i v).map iv) := by
  have e : L = L.take i ++ L[i] :: L.drop (i + 1) := by rw [← List.drop_eq_getElem_cons h, List.take_append_drop]
  have := putN_app (pre := (L.take i).map iv) (new := [iv v]) (old := [iv L[i]]) (rest := (L.drop (i + 1)).map iv) rfl
  rw [List.length_map, List.length_take, Nat.min_eq_left (by omega)] at this
  have e2 : L.map iv = (L.take i).map iv ++ [iv L[i]] ++ (L.drop (i + 1)).map iv := by
    rw [show [iv L[i]] = [L[i]].map iv from rfl, ← List.map_append, ← List.map_append, List.append_assoc]
    exact congrArg (List.map iv) e
  have e3 : (L.set i v).map iv = (L.take i).map iv ++ [iv v] ++ (L.drop (i + 1)).map iv := by
    rw [List.set_eq_take_append_cons_drop, if_pos h]; simp
  rw [e2, e3]; exact this
theorem slcFrom_gr {h : H} {b k : Nat} {L : List Int} (hb : h.get b = some (.cells (.gr 1) (L.map iv))) (h0 : 0 < L.length) (hk : k ≤ L.length) : slcFrom h 1 (.sl b 0 L.length (.slk 0 0)) (.int .i64 (k : Int)) = some (.sl b k (L.length - k) (.slk k 0)) := by
  have hi : ∀ tm : T V, (Opd.c (.int .i64 (k : Int))).ev tm = .int .i64 (k : Int) := fun _ => rfl
  have e1 : Nat.ble k L.length = true := by simp; exact hk
  have e2 : Nat.ble L.length L.length = true := by simp
  have e4 : Nat.blt 0 (L.length + L.length) = true := by rw [Nat.blt_eq]; omega
  have e5 : Nat.beq 1 1 = true := rfl
  have e6 : Nat.beq 0 (0 * 1) = true := rfl
  have e7 : Nat.ble L.length (L.map iv).length = true := by simp
  have e8 : slkRoom h b 0 1 = L.length := by simp [slkRoom, hb, lenN_eq]
  simp only [slcFrom, q_slc, slkOk, hb, lenN_eq, e5, e6, e7, og_true, e8, bnd3, natO, hi, natk_cst, bnds, e1, e2, subS, e4, Nat.mul_one, Nat.zero_add]
namespace Try
open Go.Ab.Silk (Inc lexlt)
def Adj (l : List Int) : Prop := ∀ i (h : i + 1 < l.length), l[i] ≠ l[i + 1]
set_option maxHeartbeats 2000000 in
theorem compact_ev {h : H} {b : Nat} {l : List Int} (hw : h.wf) (hb : h.get b = some (.cells (.gr 1) (l.map iv))) (h2 : 2 ≤ l.length) (hl : l.length ≤ 1000) (Q : V → H → Prop)
    (q : ∀ y h' (m : Nat), q_len y = some (.int .i64 (m : Int)) → (Adj l → m = l.length) → (¬ Adj l → m < l.length) → Keeps (fun c => c = b) h h' → h'.wf → Q y h') : Ev fnG fastA (.fn 152 [] []) [.sl b 0 l.length (.slk 0 0)] h Q := by
  refine Ev_body (fd := c152) rfl rfl rfl ?_
  have hn2 : ¬ (l.length : Int) < 2 := by omega
  have hiad : ∀ k : Nat, k < l.length → q_iad 1 (.sl b 0 l.length (.slk 0 0)) (.int .i64 (k : Int)) = some (.ptr b k) := fun k hk => by
    rw [q_iad_sl (nat_cst k) hk, Nat.mul_one, Nat.zero_add]
  simp -implicitDefEqProofs (maxSteps := 999999) (disch := first | with_reducible rfl | omega | (simp only [nA, nS, nD] <;> omega) | fail) only [c152, go_sem, hn2]
  refine W_loop (fun kk s => ∃ tm i, s = ⟨tm, h, []⟩ ∧ kk = l.length - i ∧ 1 ≤ i ∧ i ≤ l.length ∧ (∀ j (hj : j + 1 < l.length), j + 1 < i → l[j] ≠ l[j + 1]) ∧ (Opd.t 0).ev tm = .sl b 0 l.length (.slk 0 0) ∧ (Opd.t 3).ev tm = .int .i64 (i : Int)) ?_ (l.length - 1) _ ⟨_, 1, rfl, rfl, Nat.le_refl _, by omega, fun j hj h0 => by omega, (by simp [ev_c, ev_put] <;> rfl), (by simp [ev_c, ev_put] <;> rfl)⟩
  rintro kk s ⟨tm, i, rfl, hkk, i1, i2, hadj, t0, t3⟩
  by_cases hi : i < l.length
  · have hi' : (i : Int) < (l.length : Int) := by omega
    have e1 : (i : Int) - 1 = ((i - 1 : Nat) : Int) := by omega
    have n1 := nth_iv hi
    have n2 := nth_iv (L := l) (i := i - 1) (by omega)
    by_cases heq : l[i] = l[i - 1]
    · have hna : ¬ Adj l := fun ha => by
        have := ha (i - 1) (by omega)
        simp only [show i - 1 + 1 = i by omega] at this
        exact this heq.symm
      have deq : decide (l[i] = l[i - 1]) = true := decide_eq_true heq
      have hfrom := slcFrom_gr hb (by omega) (k := i) (by omega)
      have lb := hw _ _ hb
      simp -implicitDefEqProofs (maxSteps := 999999) (disch := first | with_reducible rfl | omega | (simp only [nA, nS, nD] <;> omega) | fail) only [go_sem, t0, t3, hi', wr_in, e1, hiad i hi, hiad (i - 1) (by omega), cells_of hb, n1, n2, deq, q_slc_from, hfrom]
      refine W.mono (Q := fun x1 s => x1 = .ext 2 ∧ ∃ (tm : Go.Ab.T V) (hh : H) (L : List Int) (m : Nat), s = ⟨tm, hh, []⟩ ∧ Keeps (fun c => c = b) h hh ∧ hh.wf ∧ hh.get b = some (.cells (.gr 1) (L.map iv)) ∧ L.length = l.length ∧ m < l.length ∧ (Opd.t 0).ev tm = .sl b 0 l.length (.slk 0 0) ∧ (Opd.t 3).ev tm = .int .i64 (m : Int))
        (W_loop (fun kk s => ∃ (tm : Go.Ab.T V) (hh : H) (L : List Int) (m k2 : Nat), s = ⟨tm, hh, []⟩ ∧ kk = l.length - i - k2 ∧ 1 ≤ k2 ∧ i + k2 ≤ l.length ∧ m + 1 ≤ i + k2 ∧ Keeps (fun c => c = b) h hh ∧ hh.wf ∧ hh.get b = some (.cells (.gr 1) (L.map iv)) ∧ L.length = l.length ∧
          (Opd.t 0).ev tm = .sl b 0 l.length (.slk 0 0) ∧ (Opd.t 3).ev tm = .int .i64 (m : Int) ∧ (Opd.t 4).ev tm = .sl b i (l.length - i) (.slk i 0) ∧ (Opd.t 5).ev tm = .int .i64 (k2 : Int)) ?_ (l.length - i - 1) _
          ⟨_, _, l, i, 1, rfl, rfl, Nat.le_refl _, by omega, by omega, Keeps.refl _ _, hw, hb, rfl, (by simp [ev_c, ev_put, t0] <;> rfl), (by simp [ev_c, ev_put, t3] <;> rfl), (by simp [ev_c, ev_put] <;> rfl), (by simp [ev_c, ev_put] <;> rfl)⟩) fun x1 s hx1 => ?_
      · rintro kk s ⟨tm, hh, L, m, k2, rfl, hkk, k1, k3, k4, kp, wh, gL, hL, t0, t3, t4, t5⟩
        by_cases hk : k2 < l.length - i
        · have hk' : (k2 : Int) < ((l.length - i : Nat) : Int) := by omega
          have e2 : (k2 : Int) - 1 = ((k2 - 1 : Nat) : Int) := by omega
          have a1 : q_iad 1 (.sl b i (l.length - i) (.slk i 0)) (.int .i64 (k2 : Int)) = some (.ptr b (i + k2)) := by rw [q_iad_sl (nat_cst k2) hk, Nat.mul_one]
          have a2 : q_iad 1 (.sl b i (l.length - i) (.slk i 0)) (.int .i64 ((k2 - 1 : Nat) : Int)) = some (.ptr b (i + (k2 - 1))) := by rw [q_iad_sl (nat_cst (k2 - 1)) (by omega), Nat.mul_one]
          have a3 := hiad m (by omega)
          have v1 := nth_iv (L := L) (i := i + k2) (by omega)
          have v2 := nth_iv (L := L) (i := i + (k2 - 1)) (by omega)
          cases hd : decide (L[i + k2]'(by omega) ≠ L[i + (k2 - 1)]'(by omega)) with
          | false =>
            simp -implicitDefEqProofs (maxSteps := 999999) (disch := first | with_reducible rfl | omega | (simp only [nA, nS, nD] <;> omega) | fail) only [go_sem, t0, t3, t4, t5, hk', wr_in, e2, a1, a2, cells_of gL, v1, v2, hd, wr_succ]
            exact ⟨_, by omega, _, _, L, m, k2 + 1, rfl, rfl, by omega, by omega, by omega, kp, wh, gL, hL, (by simp [ev_c, ev_put, t0] <;> rfl), (by simp [ev_c, ev_put, t3] <;> rfl), (by simp [ev_c, ev_put, t4] <;> rfl), (by simp [ev_c, ev_put] <;> rfl)⟩
          | true =>
            have hp := put_iv (L := L) (i := m) (by omega) (L[i + k2]'(by omega))
            simp -implicitDefEqProofs (maxSteps := 999999) (disch := first | with_reducible rfl | omega | (simp only [nA, nS, nD] <;> omega) | fail) only [go_sem, t0, t3, t4, t5, hk', wr_in, e2, a1, a2, a3, cells_of gL, gL, v1, v2, hd, hp, wr_succ]
            exact ⟨_, by omega, _, _, _, m + 1, k2 + 1, rfl, rfl, by omega, by omega, by omega, (kp.trans (Keeps.set hh b _)).mono fun c h => h.elim id id, H.wf_set wh _ gL, get_set_same rfl, by rw [List.length_set]; exact hL, (by simp [ev_c, ev_put, t0] <;> rfl), (by simp [ev_c, ev_put] <;> rfl), (by simp [ev_c, ev_put, t4] <;> rfl), (by simp [ev_c, ev_put] <;> rfl)⟩
        · have hk' : ¬ (k2 : Int) < ((l.length - i : Nat) : Int) := by omega
          simp -implicitDefEqProofs (maxSteps := 999999) (disch := first | with_reducible rfl | omega | (simp only [nA, nS, nD] <;> omega) | fail) only [go_sem, t0, t3, t4, t5, hk']
          exact ⟨_, _, L, m, rfl, kp, wh, gL, hL, by omega, (by simp [ev_c, ev_put, t0] <;> rfl), (by simp [ev_c, ev_put, t3] <;> rfl)⟩
      clear t0 t3
      obtain ⟨rfl, tm, hh, L, m, rfl, kp, wh, gL, hL, hm, t0, t3⟩ := hx1
      have f1 := slcFrom_gr gL (by omega) (k := m) (by omega)
      rw [hL] at f1
      obtain ⟨n, hn⟩ : ∃ n, l.length - m = n + 1 := ⟨l.length - m - 1, by omega⟩
      have hrep : ∀ n, repN n [V.int .i64 0] = (List.replicate n (0 : Int)).map iv := fun n => by
        induction n with
        | zero => rfl
        | succ n ih => simp only [repN, appN_eq, ih, List.replicate_succ, List.map_cons]; rfl
      have hp : putN m ((List.replicate (n + 1) (0 : Int)).map iv) (L.map iv) = some ((L.take m ++ List.replicate (n + 1) 0).map iv) := by
        have := putN_app (pre := (L.take m).map iv) (new := (List.replicate (n + 1) (0 : Int)).map iv) (old := (L.drop m).map iv) (rest := []) (by simp; omega)
        rw [List.length_map, List.length_take, Nat.min_eq_left (by omega), List.append_nil, List.append_nil, ← List.map_append, List.take_append_drop, ← List.map_append] at this
        exact this
      have ho : allOne ((List.replicate (n + 1) (0 : Int)).map iv) = true := by
        rw [allOne_eq]
        intro v hv
        obtain ⟨_, _, rfl⟩ := List.mem_map.1 hv; rfl
      have hclr : e_clr hh [V.int .i64 0] (.sl b m (l.length - m) (.slk m 0)) = some (.und, hh.set b (.cells (.gr 1) ((L.take m ++ List.replicate (n + 1) 0).map iv))) := by
        rw [e_clr_sl, hn, hrep]
        rw [List.replicate_succ, List.map_cons] at hp ho ⊢
        rw [H.put_gr ho gL hp, withV_some]
      have wS := H.wf_set wh (.cells (.gr 1) ((L.take m ++ List.replicate (n + 1) 0).map iv)) gL
      have gS : (hh.set b (.cells (.gr 1) ((L.take m ++ List.replicate (n + 1) 0).map iv))).get b = some (.cells (.gr 1) ((L.take m ++ List.replicate (n + 1) 0).map iv)) := get_set_same rfl
      have ll : (L.take m ++ List.replicate (n + 1) (0 : Int)).length = l.length := by simp; omega
      have lbS : b < (hh.set b (.cells (.gr 1) ((L.take m ++ List.replicate (n + 1) 0).map iv))).next := wS _ _ gS
      have ct : CutO (fun _ => True) (hh.set b (.cells (.gr 1) ((L.take m ++ List.replicate (n + 1) 0).map iv))) (.sl b 0 l.length (.slk 0 0)) 1 ((L.take m ++ List.replicate (n + 1) (0 : Int)).map encI) :=
        ⟨fun r hr => by obtain ⟨_, _, rfl⟩ := List.mem_map.1 hr; rfl, .inr (.inl ⟨b, [], 0, by rw [List.length_map, ll], trivial, lbS, by rw [List.append_nil, map_flat]; exact gS, by simp⟩)⟩
      obtain ⟨y, hy1, hy2, hy3⟩ := ct.to (k := m) (by omega) (by rw [List.length_map, ll]; omega) (by rw [List.length_map, ll]; omega)
      have ly : q_len y = some (.int .i64 (m : Int)) := by
        have := (hy2.sl (by rw [List.length_take, List.length_map, ll]; omega)).len
        rw [this, List.length_take, List.length_map, ll, Nat.min_eq_left (by omega)]
      simp -implicitDefEqProofs (maxSteps := 999999) (disch := first | with_reducible rfl | omega | (simp only [nA, nS, nD] <;> omega) | fail) only [go_sem, t0, t3, q_slc_from, f1, WI_clr, hclr, q_slc_to, hy1]
      exact q y _ m ly (fun ha => absurd ha hna) (fun _ => hm) ((kp.trans (Keeps.set hh b _)).mono fun c h => h.elim id id) wS
    · have deq : decide (l[i] = l[i - 1]) = false := decide_eq_false heq
      simp -implicitDefEqProofs (maxSteps := 999999) (disch := first | with_reducible rfl | omega | (simp only [nA, nS, nD] <;> omega) | fail) only [go_sem, t0, t3, hi', wr_in, e1, hiad i hi, hiad (i - 1) (by omega), cells_of hb, n1, n2, deq, wr_succ]
      exact ⟨_, by omega, _, i + 1, rfl, rfl, by omega, by omega, fun j hj h0 => by
        by_cases e : j + 1 = i
        · subst e; exact fun h => heq h.symm
        · exact hadj j hj (by omega), (by simp [ev_c, ev_put, t0] <;> rfl), (by simp [ev_c, ev_put] <;> rfl)⟩
  · have hi' : ¬ (i : Int) < (l.length : Int) := by omega
    simp -implicitDefEqProofs (maxSteps := 999999) (disch := first | with_reducible rfl | omega | (simp only [nA, nS, nD] <;> omega) | fail) only [go_sem, t0, t3, hi']
    exact q _ _ l.length rfl (fun _ => rfl) (fun hna => absurd (fun j hj => hadj j hj (by omega)) hna) (Keeps.refl _ _) hw
theorem cloneGr_ev {h : H} {x : V} {l : List Int} (hw : h.wf) (hx : SlAt h x 1 (l.map encI)) (hl : l.length ≤ 1000000) (h0 : 0 < l.length) (Q : V → H → Prop) (q : ∀ b h', h.Sub h' → h.next ≤ b → h'.get b = some (.cells (.gr 1) (l.map iv)) → Q (.sl b 0 l.length (.slk 0 0)) h') : Ev fnG fastA (.fn 135 [] []) [x] h Q := by
  refine Ev_body (fd := c135) rfl rfl rfl ?_
  rcases hx.2.2 with ⟨rfl, e⟩ | ⟨b, o, c, cs, rfl, _⟩
  · have := congrArg List.length e; simp at this; rw [this] at h0; simp at h0
  · simp -implicitDefEqProofs (maxSteps := 999999) (disch := first | with_reducible rfl | omega | (simp only [nA, nS, nD] <;> omega) | fail) only [c135, go_sem]
    have s1 : h.Sub (h.add (.cells .rw [])) := (H.Sub.refl hw).add _
    have hx1 := (hx.mono s1).elems
    rw [map_flat, List.length_map] at hx1
    rw [List.length_map]
    obtain ⟨k, hk⟩ : ∃ k, l.length = k + 1 := ⟨l.length - 1, by omega⟩
    rw [e_app_eq, hx1.1, hx1.2]
    simp only [ob_some]
    rw [hk, e_app_full (by omega) (elems_0 _ _ _ _ _) (by simp only [Nat.zero_add]; omega) (by omega), grown_eq, P2_some]
    simp -implicitDefEqProofs (maxSteps := 999999) (disch := first | with_reducible rfl | omega | (simp only [nA, nS, nD] <;> omega) | fail) only [go_sem]
    have := q (h.next + 1) ((h.add (.cells .rw [])).add (.cells (.gr 1) (l.map iv))) (s1.add _) (by omega) (get_add_new (by rw [H.next_add]))
    rw [hk] at this
    simpa using this
theorem lt_iff {l : List Int} : l.Pairwise (· < ·) ↔ l.Pairwise (· ≤ ·) ∧ Adj l := by
  constructor
  · intro h
    exact ⟨h.imp fun h => by omega, fun i hi => by
      have := List.pairwise_iff_getElem.1 h i (i + 1) (by omega) hi (by omega); omega⟩
  · rintro ⟨h1, h2⟩
    refine adj_pw (R := fun a b => a < b) (fun a b c h1 h2 => Int.lt_trans h1 h2) fun i hi => ?_
    have := List.pairwise_iff_getElem.1 h1 i (i + 1) (by omega) hi (by omega)
    have := h2 i hi
    show l[i] < l[i + 1]
    omega
theorem rising_ev {h : H} {x : V} {l : List Int} (hw : h.wf) (hx : SlAt h x 1 (l.map encI)) (hl : l.length ≤ 1000) (Q : V → H → Prop) (q : ∀ h', h.Sub h' → Q (.bool (decide (l.Pairwise (· < ·)))) h') : Ev fnG fastA (.fn 128 [] []) [x] h Q := by
  have hlx := hx.lenE
  refine Ev_body (fd := c128) rfl rfl rfl ?_
  by_cases h1 : l.Pairwise (· ≤ ·)
  · have d1 : decide (l.Pairwise (· ≤ ·)) = true := decide_eq_true h1
    by_cases h2 : 2 ≤ l.length
    · simp -implicitDefEqProofs (maxSteps := 999999) (disch := first | with_reducible rfl | omega | (simp only [nA, nS, nD] <;> omega) | fail) only [c128, go_sem, isSorted_ev hx, d1]
      refine cloneGr_ev hw hx (by omega) (by omega) _ fun b h3 s3 nb g3 => ?_
      simp -implicitDefEqProofs (maxSteps := 999999) (disch := first | with_reducible rfl | omega | (simp only [nA, nS, nD] <;> omega) | fail) only [go_sem]
      refine compact_ev s3.wf g3 h2 hl _ fun y h4 m ly m1 m2 k4 w4 => ?_
      have e : decide ((m : Int) = (l.length : Int)) = decide (l.Pairwise (· < ·)) := by
        rw [decide_eq_decide, lt_iff]
        constructor
        · intro he
          refine ⟨h1, Classical.byContradiction fun hna => ?_⟩
          have := m2 hna; omega
        · rintro ⟨_, ha⟩
          rw [m1 ha]
      simp -implicitDefEqProofs (maxSteps := 999999) (disch := first | with_reducible rfl | omega | (simp only [nA, nS, nD] <;> omega) | fail) only [go_sem, ly, hlx, e]
      exact q _ (k4.sub s3 hw (fun c hc => by omega) w4)
    · have hp : decide (l.Pairwise (· < ·)) = true := decide_eq_true (lt_iff.2 ⟨h1, fun i hi => by omega⟩)
      rw [hp] at q
      simp -implicitDefEqProofs (maxSteps := 999999) (disch := first | with_reducible rfl | omega | (simp only [nA, nS, nD] <;> omega) | fail) only [c128, go_sem, isSorted_ev hx, d1]
      refine cloneInt_ev hw hx (by rw [List.length_map]; omega) _ fun v h3 ov => ?_
      have lv := (ov.sl (by simp only [List.length_map]; omega)).lenE
      simp -implicitDefEqProofs (maxSteps := 999999) (disch := first | with_reducible rfl | omega | (simp only [nA, nS, nD] <;> omega) | fail) only [go_sem]
      refine Ev_body (fd := c152) rfl rfl rfl ?_
      have hn2 : (l.length : Int) < 2 := by omega
      have ee : decide ((l.length : Int) = (l.length : Int)) = true := decide_eq_true rfl
      simp -implicitDefEqProofs (maxSteps := 999999) (disch := first | with_reducible rfl | omega | (simp only [nA, nS, nD] <;> omega) | fail) only [c152, go_sem, lv, hn2, hlx, ee]
      exact q _ ov.1
  · have d1 : decide (l.Pairwise (· ≤ ·)) = false := decide_eq_false h1
    have d2 : decide (l.Pairwise (· < ·)) = false := decide_eq_false fun h => h1 (lt_iff.1 h).1
    rw [d2] at q
    simp -implicitDefEqProofs (maxSteps := 999999) (disch := first | with_reducible rfl | omega | (simp only [nA, nS, nD] <;> omega) | fail) only [c128, go_sem, isSorted_ev hx, d1]
    exact q _ (H.Sub.refl hw)
def isEy (t : Tb) (p : Int) : Bool := decide (0 ≤ p ∧ p < (t.eyes.length : Int))
theorem eye_ev {h : H} {E L P : V} {t : Tb} (hw : h.wf) (ht : TbIs h (.agg [E, L, P]) t) (p : Int) (Q : V → H → Prop) (q : ∀ h', h.Sub h' → Q (.bool (isEy t p)) h') : Ev fnG fastA (.fn 127 [] []) [.agg [E, L, P], .int .i64 p] h Q := by
  obtain ⟨E', L', P', e, aE, aL, aP⟩ := ht
  cases e
  have hlE := aE.lenE
  have bE := aE.boundE
  refine Ev_body (fd := c127) rfl rfl rfl ?_
  have e : inB p 0 ((t.eyes.length : Int) - 1) = isEy t p := by unfold inB isEy; rw [Bool.eq_iff_iff]; simp; omega
  simp -implicitDefEqProofs (maxSteps := 999999) (disch := first | with_reducible rfl | omega | (simp only [nA, nS, nD] <;> omega) | fail) only [c127, go_sem, hlE, wr_in, in_ev, e]
  exact q _ ((by repeat (first | assumption | exact H.Sub.refl (by assumption) | refine H.Sub.add ?_ _ | refine H.Sub.set ?_ (by first | omega | (simp only [H.next_add, H.next_set, H.next_del] <;> omega)) (by first | omega | (simp only [H.next_add, H.next_set, H.next_del] <;> omega)) (by assumption) _)))
def lstE (t : Tb) (l : List Int) : Int := if check t ≠ 0 then check t else if l.all (isEy t) = false then 1 else if decide (l.Pairwise (· < ·)) = false then 4 else 0
def enR (t : Tb) (l : List Int) : Bool := decide (lstE t l = 0) && enoughB t l
theorem Enough_ev {h : H} {v x : V} {t : Tb} {l : List Int} (hw : h.wf) (ht : TbIs h v t) (hx : SlAt h x 1 (l.map encI)) (hl : l.length ≤ 1000) (Q : V → H → Prop) (q : ∀ h', h.Sub h' → Q (.tup [.bool (enR t l), .int .i64 (lstE t l)]) h') : Ev fnG fastA (.fn 67 [] []) [v, x] h Q := by
  have ht0 := ht
  obtain ⟨E, L, P, rfl, aE, aL, aP⟩ := ht
  refine Ev_body (fd := c67) rfl rfl rfl ?_
  have s1 : h.Sub (h.add (.cells .rw [E, L, P])) := (by repeat (first | assumption | exact H.Sub.refl (by assumption) | refine H.Sub.add ?_ _ | refine H.Sub.set ?_ (by first | omega | (simp only [H.next_add, H.next_set, H.next_del] <;> omega)) (by first | omega | (simp only [H.next_add, H.next_set, H.next_del] <;> omega)) (by assumption) _))
  have g1 : (h.add (.cells .rw [E, L, P])).cells h.next = some [E, L, P] := cells_add_new rfl
  have bad : ∀ h', h.Sub h' → ∀ e : Int, e ≠ 0 → lstE t l = e → Q (.tup [.bool false, .int .i64 e]) h' := fun h' s e he e1 => by
    have q' := q _ s
    have : enR t l = false := by unfold enR; rw [e1, decide_eq_false he]; rfl
    rw [this, e1] at q'; exact q'
  simp -implicitDefEqProofs (maxSteps := 999999) (disch := first | with_reducible rfl | omega | (simp only [nA, nS, nD] <;> omega) | fail) only [c67, go_sem]
  refine opened_use s1.wf (ht0.mono s1) _ (fun h5 s45 c => ?_) fun h5 d s15 c g hd => ?_
  · simp -implicitDefEqProofs (maxSteps := 999999) (disch := first | with_reducible rfl | omega | (simp only [nA, nS, nD] <;> omega) | fail) only [go_sem, ne_eq, c, not_false_eq_true]
    exact bad _ (s1.trans s45) _ c (by unfold lstE; rw [if_pos c])
  have s5 := s1.trans s15
  simp -implicitDefEqProofs (maxSteps := 999999) (disch := first | with_reducible rfl | omega | (simp only [nA, nS, nD] <;> omega) | fail) only [go_sem, ne_eq, not_true_eq_false, s15.cells g1]
  refine (everyInt_ev (p := isEy t) s15.wf (hx.mono s5) fun a _ => fun h6 s6 => Ev.gen fun Q q => Ev_bound (eye_ev s6.wf (ht0.mono (s5.trans s6)) a _ fun h7 s7 => q _ _ ⟨rfl, s7⟩)).mono fun u h8 hu => ?_
  obtain ⟨rfl, s8⟩ := hu
  have s58 := s5.trans s8
  cases ha : l.all (isEy t)
  · simp -implicitDefEqProofs (maxSteps := 999999) (disch := first | with_reducible rfl | omega | (simp only [nA, nS, nD] <;> omega) | fail) only [go_sem, Bool.not_false]
    exact bad _ s58 1 (by decide) (by unfold lstE; rw [if_neg (by simp [c]), if_pos ha])
  simp -implicitDefEqProofs (maxSteps := 999999) (disch := first | with_reducible rfl | omega | (simp only [nA, nS, nD] <;> omega) | fail) only [go_sem, Bool.not_true]
  refine rising_ev s8.wf (hx.mono s58) hl _ fun h9 s9 => ?_
  have s59 := s58.trans s9
  cases hr : decide (l.Pairwise (· < ·))
  · simp -implicitDefEqProofs (maxSteps := 999999) (disch := first | with_reducible rfl | omega | (simp only [nA, nS, nD] <;> omega) | fail) only [go_sem, Bool.not_false]
    exact bad _ s59 4 (by decide) (by unfold lstE; rw [if_neg (by simp [c]), if_neg (by simp [ha]), if_pos hr])
  have e0 : lstE t l = 0 := by unfold lstE; rw [if_neg (by simp [c]), if_neg (by simp [ha]), if_neg (by rw [hr]; simp)]
  simp -implicitDefEqProofs (maxSteps := 999999) (disch := first | with_reducible rfl | omega | (simp only [nA, nS, nD] <;> omega) | fail) only [go_sem, Bool.not_true]
  refine enough_ev s9.wf (hd.mono (s8.trans s9)) g (hx.mono s59) _ fun hA sA => ?_
  have q' := q _ (s59.trans sA)
  have : enR t l = enoughB t l := by unfold enR; rw [e0]; simp
  rw [this, e0] at q'
  simp -implicitDefEqProofs (maxSteps := 999999) (disch := first | with_reducible rfl | omega | (simp only [nA, nS, nD] <;> omega) | fail) only [go_sem]
  exact q'
end Try
end Go.Ab
set_option linter.unusedSimpArgs false
set_option linter.unusedVariables false
namespace Go.Ab.Try
open Go.Ab.Silk (Inc lexlt IsMin)
theorem tellP_len {t : Tb} (g : Good t) (r p : Nat) : (tellP t r p).length ≤ 6 := by
  have := g.eyes
  unfold tellP
  split
  · exact Nat.le_trans (tellK_len _ _ _ _) (by omega)
  · simp
end Go.Ab.Try
set_option linter.unusedSimpArgs false
set_option linter.unusedVariables false
namespace Go.Ab.Try
open Go.Ab.Silk (Inc lexlt IsMin)
theorem lenough1_ev {l : List Int} {h : H} {x : V} {b : Nat} (hb : h.cells b = some [x]) (hx : SlAt h x 1 (l.map encI)) (e : Int) : PureA h (.fn 124 [] [.ptr b 0]) [.int .i64 e] (.bool (l.any fun r => decide (e = r))) := by
  intro h1 hs
  refine Ev.gen fun Q q => ?_
  refine Ev_body (fd := c124) rfl rfl rfl ?_
  simp -implicitDefEqProofs (maxSteps := 999999) (disch := first | with_reducible rfl | omega | (simp only [nA, nS, nD] <;> omega) | fail) only [c124, go_sem, hs.cells hb]
  refine hasInt_ev hs.wf (hx.mono hs) e _ fun h2 s2 => ?_
  simp -implicitDefEqProofs (maxSteps := 999999) (disch := first | with_reducible rfl | omega | (simp only [nA, nS, nD] <;> omega) | fail) only [go_sem]
  exact q _ _ ⟨rfl, s2⟩
theorem tellK_comm (t : Tb) (a b : Sd) : ∀ n, tellK t a b n = tellK t b a n
  | 0 => rfl
  | n + 1 => by
    have e : tellsE t n a b = tellsE t n b a := by unfold tellsE; simp only [tellsAt_comm t a b]
    simp only [tellK, tellK_comm t a b n, e]
theorem tellP_at {t : Tb} {r p : Nat} (hr : r < t.pieces.length) (hp : p < t.pieces.length) : tellP t r p = tellK t t.pieces[r] t.pieces[p] t.eyes.length := by
  unfold tellP; rw [List.getElem?_eq_getElem hr, List.getElem?_eq_getElem hp]
set_option maxHeartbeats 1000000 in
theorem lenough_ev {h : H} {E L P x : V} {t : Tb} {F : Nat → Prop} {l : List Int} (hw : h.wf) (ht : TbIs h (.agg [E, L, P]) t) (g : Good t) (cP : CutO F h P 3 (t.pieces.map encD)) (hx : SlAt h x 1 (l.map encI)) (Q : V → H → Prop) (q : ∀ h', h.Sub h' → Q (.bool (enoughB t l)) h') :
    Ev fnG fastA (.fn 63 [] []) [.agg [E, L, P], x] h Q := by
  have ht0 := ht
  obtain ⟨_, _, _, e0, aE, aL, aP⟩ := ht
  cases e0
  have gE := g.eyes
  have gp := g.pieces
  have hlP := aP.lenE
  have hx1 := hx.one
  refine Ev_body (fd := c63) rfl rfl rfl ?_
  have s1 : h.Sub ((h.add (.cells .rw [E, L, P])).add (.cells .rw [x])) := ((H.Sub.refl hw).add _).add _
  have g2 : ((h.add (.cells .rw [E, L, P])).add (.cells .rw [x])).cells h.next = some [E, L, P] := by simp -implicitDefEqProofs (maxSteps := 999999) (disch := first | with_reducible rfl | omega | (simp only [nA, nS, nD] <;> omega) | fail) only [go_sem]
  have g3 : ((h.add (.cells .rw [E, L, P])).add (.cells .rw [x])).cells (h.next + 1) = some [x] := by simp -implicitDefEqProofs (maxSteps := 999999) (disch := first | with_reducible rfl | omega | (simp only [nA, nS, nD] <;> omega) | fail) only [go_sem]
  simp -implicitDefEqProofs (maxSteps := 999999) (disch := first | with_reducible rfl | omega | (simp only [nA, nS, nD] <;> omega) | fail) only [c63, go_sem, hx1, cells_one hx1, hlP]
  generalize (h.add (.cells .rw [E, L, P])).add (.cells .rw [x]) = h5 at s1 g2 g3 ⊢
  have okAll : (∀ p, p < t.pieces.length → ∀ r, r < p → okPair t l r p = true) → enoughB t l = true := fun hh => by
    unfold enoughB
    rw [List.all_eq_true]
    intro p hp
    rw [List.all_eq_true]
    intro r hr
    exact hh p (List.mem_range.1 hp) r (List.mem_range.1 hr)
  refine W_count t.pieces.length (fun p s => ∃ tm h', s = ⟨tm, h', []⟩ ∧ h5.Sub h' ∧ (∀ p', p' < p → ∀ r, r < p' → okPair t l r p' = true) ∧ (Opd.t 2).ev tm = .ptr h.next 0 ∧ (Opd.t 3).ev tm = .ptr (h.next + 1) 0 ∧ (Opd.t 11).ev tm = P ∧ (Opd.t 12).ev tm = .int .i64 (t.pieces.length : Int) ∧ (Opd.t 13).ev tm = .int .i64 (p : Int))
    ?_ ?_ (i := 0) (Nat.zero_le _) ⟨_, _, rfl, H.Sub.refl s1.wf, fun p' h0 => by omega, (by simp [ev_c, ev_put] <;> rfl), (by simp [ev_c, ev_put] <;> rfl), (by simp [ev_c, ev_put] <;> rfl), (by simp [ev_c, ev_put] <;> rfl), (by simp [ev_c, ev_put] <;> rfl)⟩
  · rintro p s hp ⟨tm, h', rfl, hs, hok, t2, t3, t11, t12, t13⟩
    have hp' : (p : Int) < (t.pieces.length : Int) := by omega
    have sh := s1.trans hs
    obtain ⟨bP, oP, cP', csP, eP, hcP, hqP, hgP, _, _⟩ := (aP.mono sh).at hp
    simp only [encD] at hgP
    obtain ⟨yP, hyP, cyP, _⟩ := (cP.mono sh).to (k := p) (by omega) (by simp only [List.length_map]; omega) (by simp only [List.length_map]; omega)
    have sA := (H.Sub.refl hs.wf).add (.cells .rw [.int .i64 t.pieces[p].x, .int .i64 t.pieces[p].y, .int .i64 t.pieces[p].z])
    have g6 : (h'.add (.cells .rw [.int .i64 t.pieces[p].x, .int .i64 t.pieces[p].y, .int .i64 t.pieces[p].z])).cells h'.next = some [.int .i64 t.pieces[p].x, .int .i64 t.pieces[p].y, .int .i64 t.pieces[p].z] := cells_add_new rfl
    have hyA : slcTo (h'.add (.cells .rw [.int .i64 t.pieces[p].x, .int .i64 t.pieces[p].y, .int .i64 t.pieces[p].z])) 3 P (.int .i64 (p : Int)) = some yP ∧ CutO F (h'.add (.cells .rw [.int .i64 t.pieces[p].x, .int .i64 t.pieces[p].y, .int .i64 t.pieces[p].z])) yP 3 ((t.pieces.map encD).take p) := by
      obtain ⟨y2, hy2, cy2, _⟩ := ((cP.mono sh).mono sA).to (k := p) (by omega) (by simp only [List.length_map]; omega) (by simp only [List.length_map]; omega)
      have e : y2 = yP := by
        rcases cP.2 with ⟨rfl, _⟩ | ⟨b, rest, j, rfl, l1, l2, hb, hr⟩ | ⟨b, c, rest, rfl, _⟩
        · rw [show slcTo (h'.add _) 3 .nils (.int .i64 (p : Int)) = slcTo h' 3 .nils (.int .i64 (p : Int)) from rfl, hyP] at hy2
          exact (Option.some.inj hy2).symm
        · have e1 : h'.get b = (h'.add (.cells .rw [.int .i64 t.pieces[p].x, .int .i64 t.pieces[p].y, .int .i64 t.pieces[p].z])).get b := by rw [get_add_old (by have := sh.next; omega)]
          have : slcTo (h'.add (.cells .rw [.int .i64 t.pieces[p].x, .int .i64 t.pieces[p].y, .int .i64 t.pieces[p].z])) 3 (.sl b 0 (t.pieces.map encD).length (.slk 0 0)) (.int .i64 (p : Int)) = slcTo h' 3 (.sl b 0 (t.pieces.map encD).length (.slk 0 0)) (.int .i64 (p : Int)) := by
            simp only [slcTo, q_slc, slkOk, slkRoom, e1]
          rw [this, hyP] at hy2
          exact (Option.some.inj hy2).symm
        · have : slcTo (h'.add (.cells .rw [.int .i64 t.pieces[p].x, .int .i64 t.pieces[p].y, .int .i64 t.pieces[p].z])) 3 (.sl b 0 (t.pieces.map encD).length (.fix c)) (.int .i64 (p : Int)) = slcTo h' 3 (.sl b 0 (t.pieces.map encD).length (.fix c)) (.int .i64 (p : Int)) := rfl
          rw [this, hyP] at hy2
          exact (Option.some.inj hy2).symm
      rw [e] at hy2 cy2
      exact ⟨hy2, cy2⟩
    have etk : (t.pieces.map encD).take p = (t.pieces.take p).map encD := by rw [List.map_take]
    rw [etk] at hyA
    have lyp : q_len yP = some (.int .i64 (p : Int)) := by
      have := (hyA.2.sl (by simp only [List.length_map, List.length_take]; omega)).lenE
      rw [this, List.length_take, Nat.min_eq_left (by omega)]
    have g2' := hs.cells g2
    simp -implicitDefEqProofs (maxSteps := 999999) (disch := first | with_reducible rfl | omega | (simp only [nA, nS, nD] <;> omega) | fail) only [go_sem, t2, t3, t11, t12, t13, hp', hqP (nat_cst p), hcP, hgP, g2', sA.cells g2', q_slc_to, hyA.1, lyp]
    have hyC := hyA.2
    generalize (h'.add (.cells .rw [.int .i64 t.pieces[p].x, .int .i64 t.pieces[p].y, .int .i64 t.pieces[p].z])) = hA at sA g6 hyC ⊢
    have sh5 := hs.trans sA
    refine W_count p (fun r s => ∃ tm hq, s = ⟨tm, hq, []⟩ ∧ hA.Sub hq ∧ (∀ r', r' < r → okPair t l r' p = true) ∧ (Opd.t 2).ev tm = .ptr h.next 0 ∧ (Opd.t 3).ev tm = .ptr (h.next + 1) 0 ∧ (Opd.t 6).ev tm = .ptr h'.next 0 ∧ (Opd.t 11).ev tm = P ∧ (Opd.t 12).ev tm = .int .i64 (t.pieces.length : Int) ∧ (Opd.t 13).ev tm = .int .i64 (p : Int) ∧ (Opd.t 21).ev tm = yP ∧ (Opd.t 22).ev tm = .int .i64 (p : Int) ∧ (Opd.t 23).ev tm = .int .i64 (r : Int))
      ?_ ?_ (i := 0) (Nat.zero_le _) ⟨_, _, rfl, H.Sub.refl sA.wf, fun r' h0 => by omega, (by simp [ev_c, ev_put, t2] <;> rfl), (by simp [ev_c, ev_put, t3] <;> rfl), (by simp [ev_c, ev_put] <;> rfl), (by simp [ev_c, ev_put, t11] <;> rfl), (by simp [ev_c, ev_put, t12] <;> rfl), (by simp [ev_c, ev_put, t13] <;> rfl), (by simp [ev_c, ev_put] <;> rfl), (by simp [ev_c, ev_put] <;> rfl), (by simp [ev_c, ev_put] <;> rfl)⟩
    · clear t2 t3 t11 t12 t13
      rintro r s hr ⟨tm, hq, rfl, sq, hokr, t2, t3, t6, t11, t12, t13, t21, t22, t23⟩
      have hr' : (r : Int) < (p : Int) := by omega
      have hrl : r < t.pieces.length := by omega
      obtain ⟨bR, oR, cR, csR, eR, hcR, hqR, hgR, _, _⟩ := ((hyC.sl (by simp only [List.length_map, List.length_take]; omega)).mono sq).at (k := r) (by rw [List.length_take]; omega)
      rw [List.getElem_take] at hgR
      simp only [encD] at hgR
      have sB := (H.Sub.refl sq.wf).add (.cells .rw [.int .i64 t.pieces[r].x, .int .i64 t.pieces[r].y, .int .i64 t.pieces[r].z])
      have g8 : (hq.add (.cells .rw [.int .i64 t.pieces[r].x, .int .i64 t.pieces[r].y, .int .i64 t.pieces[r].z])).cells hq.next = some [.int .i64 t.pieces[r].x, .int .i64 t.pieces[r].y, .int .i64 t.pieces[r].z] := cells_add_new rfl
      have s5B := sh5.trans (sq.trans sB)
      have htl := tellers_ev (h := hq.add (.cells .rw [.int .i64 t.pieces[r].x, .int .i64 t.pieces[r].y, .int .i64 t.pieces[r].z])) sB.wf (ht0.mono (s1.trans s5B)) g (g.piece _ (List.getElem_mem hp)) (g.piece _ (List.getElem_mem hrl))
      rw [tellK_comm, ← tellP_at hrl hp] at htl
      simp only [encD] at htl
      have g2B := s5B.cells g2
      have g3B := s5B.cells g3
      have g6B := (sq.trans sB).cells g6
      simp -implicitDefEqProofs (maxSteps := 999999) (disch := first | with_reducible rfl | omega | (simp only [nA, nS, nD] <;> omega) | fail) only [go_sem, t2, t3, t6, t11, t12, t13, t21, t22, t23, hr', hqR (nat_cst r), hcR, hgR]
      generalize (hq.add (.cells .rw [.int .i64 t.pieces[r].x, .int .i64 t.pieces[r].y, .int .i64 t.pieces[r].z])) = hB at sB g8 s5B htl g2B g3B g6B ⊢
      try simp -implicitDefEqProofs (maxSteps := 999999) (disch := first | with_reducible rfl | omega | (simp only [nA, nS, nD] <;> omega) | fail) only [go_sem, t2, t3, t6, t11, t12, t13, t21, t22, t23, g2B, g6B, g8]
      refine htl _ fun y h2 oy => ?_
      have ll := tellP_len g r p
      have sly := oy.sl (by simp only [List.length_map]; omega)
      have ly := sly.lenE
      have s2 := sq.trans (sB.trans oy.1)
      have nxt : okPair t l r p = true → ∀ r', r' < r + 1 → okPair t l r' p = true := fun h0 r' h1 => by
        by_cases e : r' = r
        · subst e; exact h0
        · exact hokr r' (by omega)
      by_cases hz : (tellP t r p).length = 0
      · have hn : ¬ (0 : Int) < ((tellP t r p).length : Int) := by omega
        simp -implicitDefEqProofs (maxSteps := 999999) (disch := first | with_reducible rfl | omega | (simp only [nA, nS, nD] <;> omega) | fail) only [go_sem, t2, t3, t6, t11, t12, t13, t21, t22, t23, ly, hn, wr_succ]
        exact ⟨_, _, rfl, s2, nxt (by unfold okPair; rw [decide_eq_true hz]; rfl), (by simp [ev_c, ev_put, t2] <;> rfl), (by simp [ev_c, ev_put, t3] <;> rfl), (by simp [ev_c, ev_put, t6] <;> rfl), (by simp [ev_c, ev_put, t11] <;> rfl), (by simp [ev_c, ev_put, t12] <;> rfl), (by simp [ev_c, ev_put, t13] <;> rfl), (by simp [ev_c, ev_put, t21] <;> rfl), (by simp [ev_c, ev_put, t22] <;> rfl), (by simp [ev_c, ev_put] <;> rfl)⟩
      · have hn : (0 : Int) < ((tellP t r p).length : Int) := by omega
        simp -implicitDefEqProofs (maxSteps := 999999) (disch := first | with_reducible rfl | omega | (simp only [nA, nS, nD] <;> omega) | fail) only [go_sem, t2, t3, t6, t11, t12, t13, t21, t22, t23, ly, hn]
        refine (containsFuncInt_ev (p := fun e => l.any fun x => decide (e = x)) oy.1.wf sly fun e _ => lenough1_ev (oy.1.cells g3B) (hx.mono (s1.trans (s5B.trans oy.1))) e).mono fun u h3 hu => ?_
        obtain ⟨rfl, s3⟩ := hu
        have hok' : okPair t l r p = (tellP t r p).any fun e => l.any fun x => decide (e = x) := by
          unfold okPair; rw [decide_eq_false hz, Bool.false_or]
        cases hc : (tellP t r p).any fun e => l.any fun x => decide (e = x) with
        | true =>
          simp -implicitDefEqProofs (maxSteps := 999999) (disch := first | with_reducible rfl | omega | (simp only [nA, nS, nD] <;> omega) | fail) only [go_sem, t2, t3, t6, t11, t12, t13, t21, t22, t23, Bool.not_true, wr_succ]
          exact ⟨_, _, rfl, s2.trans s3, nxt (by rw [hok', hc]), (by simp [ev_c, ev_put, t2] <;> rfl), (by simp [ev_c, ev_put, t3] <;> rfl), (by simp [ev_c, ev_put, t6] <;> rfl), (by simp [ev_c, ev_put, t11] <;> rfl), (by simp [ev_c, ev_put, t12] <;> rfl), (by simp [ev_c, ev_put, t13] <;> rfl), (by simp [ev_c, ev_put, t21] <;> rfl), (by simp [ev_c, ev_put, t22] <;> rfl), (by simp [ev_c, ev_put] <;> rfl)⟩
        | false =>
          have hf : enoughB t l = false := by
            unfold enoughB
            rw [List.all_eq_false]
            refine ⟨p, List.mem_range.2 hp, ?_⟩
            have : ((List.range p).all fun r => okPair t l r p) = false := List.all_eq_false.2 ⟨r, List.mem_range.2 hr, by rw [hok', hc]; simp⟩
            rw [this]; simp
          rw [hf] at q
          simp -implicitDefEqProofs (maxSteps := 999999) (disch := first | with_reducible rfl | omega | (simp only [nA, nS, nD] <;> omega) | fail) only [go_sem, t2, t3, t6, t11, t12, t13, t21, t22, t23, Bool.not_false]
          exact q _ (s1.trans (s5B.trans (oy.1.trans s3)))
    · clear t2 t3 t11 t12 t13
      rintro s ⟨tm, hq, rfl, sq, hokr, t2, t3, t6, t11, t12, t13, t21, t22, t23⟩
      simp -implicitDefEqProofs (maxSteps := 999999) (disch := first | with_reducible rfl | omega | (simp only [nA, nS, nD] <;> omega) | fail) only [go_sem, t2, t3, t6, t11, t12, t13, t21, t22, t23, Int.lt_irrefl, wr_succ]
      exact ⟨_, _, rfl, sh5.trans sq, fun p' h1 => by
        by_cases e : p' = p
        · subst e; exact hokr
        · exact hok p' (by omega), (by simp [ev_c, ev_put, t2] <;> rfl), (by simp [ev_c, ev_put, t3] <;> rfl), (by simp [ev_c, ev_put, t11] <;> rfl), (by simp [ev_c, ev_put, t12] <;> rfl), (by simp [ev_c, ev_put] <;> rfl)⟩
  · rintro s ⟨tm, h', rfl, hs, hok, t2, t3, t11, t12, t13⟩
    rw [okAll hok] at q
    simp -implicitDefEqProofs (maxSteps := 999999) (disch := first | with_reducible rfl | omega | (simp only [nA, nS, nD] <;> omega) | fail) only [go_sem, t2, t3, t11, t12, t13, Int.lt_irrefl]
    exact q _ (s1.trans hs)
end Go.Ab.Try
set_option linter.unusedSimpArgs false
set_option linter.unusedVariables false
namespace Go.Ab
theorem OwnSl.app0 {h0 h : H} {x y : V} {sz by_ : Nat} {rows : List (List V)} (a : OwnSl h0 h x sz rows) (hp : 0 < sz) (hy : SlAt h y sz []) : e_app' h sz by_ x y = some (x, h) := by
  obtain ⟨he, hl⟩ := hy.elems
  obtain ⟨a0, a1, a2⟩ := a
  rw [e_app_eq, he, hl]
  simp only [ob_some, List.length_nil]
  rcases a2 with ⟨rfl, rfl⟩ | ⟨b, rfl, l1, l2, hb⟩
  · rw [e_app_nils0]
  · have e1 : Nat.beq sz sz = true := by simp
    have e2 : Nat.beq 0 (0 * sz) = true := by simp
    have e3 : Nat.ble (0 + rows.length * sz) rows.flatten.length = true := by rw [flatten_len a1]; simp
    simp only [e_app, slkOk, hb, e1, e2, lenN_eq, e3, og_true]
namespace Try
open Go.Ab.Silk (Inc lexlt IsMin)
def LsRd (h : H) (x : V) (S : List (List Int)) : Prop := ∃ (F : Nat → Prop) (xs : List V), SlAt h x 1 (xs.map fun v => [v]) ∧ xs.length = S.length ∧ ∀ i (hi : i < xs.length) (hj : i < S.length), CutO F h xs[i] 1 (S[i].map encI)
theorem LsRd.mono {h h' : H} {x : V} {S : List (List Int)} (a : LsRd h x S) (s : h.Sub h') : LsRd h' x S := by
  obtain ⟨F, xs, a1, a2, a3⟩ := a
  exact ⟨F, xs, a1.mono s, a2, fun i hi hj => (a3 i hi hj).mono s⟩
theorem LsCut.rd {F : Nat → Prop} {h : H} {x : V} {S : List (List Int)} (a : LsCut F h x (S.map fun l => l.map encI)) (hl : S.length ≤ 1000) : LsRd h x S := by
  obtain ⟨xs, a1, a2, a3, _⟩ := a
  rw [List.length_map] at a2
  exact ⟨F, xs, a1.sl (by simp only [List.length_map]; omega), a2, fun i hi hj => by have := (a3 i hi (by rw [List.length_map]; exact hj)).1; rwa [List.getElem_map] at this⟩
theorem LsRd.len {h : H} {x : V} {S : List (List Int)} (a : LsRd h x S) : q_len x = some (.int .i64 (S.length : Int)) := by
  obtain ⟨F, xs, a1, a2, _⟩ := a
  rw [a1.lenE, a2]
theorem LsRd.row {h : H} {x : V} {S : List (List Int)} (a : LsRd h x S) {i : Nat} (hi : i < S.length) : ∃ F b o cs v, q_iad 1 x (.int .i64 (i : Int)) = some (.ptr b o) ∧ h.cells b = some cs ∧ nth o cs = some v ∧ CutO F h v 1 (S[i].map encI) := by
  obtain ⟨F, xs, a1, a2, a3⟩ := a
  obtain ⟨b, o, c, cs, e1, e2, e3, _, _, e4⟩ := a1.at (k := i) (by omega)
  have e5 := e4 (by omega)
  exact ⟨F, b, o + i * 1, cs, xs[i], e3 (nat_cst i), e2, e5, a3 i (by omega) hi⟩
def rowOk (t : Tb) (seen l : List Int) (i : Nat) : Bool := match l[i]? with
  | some p => decide (0 ≤ p ∧ p < (t.pieces.length : Int)) && (decide (i = 0) || decide (l.getD (i - 1) 0 < p)) && (!(seen.any fun r => decide (p = r)) && (l.take i).all fun q => mT t p q)
  | none => false
def lsR (t : Tb) : List Int → List (List Int) → Bool
  | seen, [] => decide ((seen.length : Int) = (t.pieces.length : Int))
  | seen, l :: S => (List.range l.length).all (rowOk t seen l) && !l.isEmpty && lsR t (seen ++ l) S
theorem lsR_bad {t : Tb} {seen l : List Int} {S : List (List Int)} {i : Nat} (hi : i < l.length) (h : rowOk t seen l i = false) : lsR t seen (l :: S) = false := by
  have : (List.range l.length).all (rowOk t seen l) = false := List.all_eq_false.2 ⟨i, List.mem_range.2 hi, by rw [h]; simp⟩
  unfold lsR
  rw [this]; rfl
theorem sorting1_ev {h : H} {bT bP : Nat} {E L P : V} {t : Tb} (g : Good t) (gT : h.cells bT = some [E, L, P]) (ht : TbIs h (.agg [E, L, P]) t) {p : Int} (gP : h.cells bP = some [.int .i64 p]) (hp : 0 ≤ p ∧ p < (t.pieces.length : Int)) {r : Int} (hr : 0 ≤ r ∧ r < (t.pieces.length : Int)) :
    PureA h (.fn 125 [] [.ptr bT 0, .ptr bP 0]) [.int .i64 r] (.bool (!mT t p r)) := by
  intro h1 hs
  obtain ⟨i, rfl⟩ := Int.eq_ofNat_of_zero_le hp.1
  obtain ⟨k, rfl⟩ := Int.eq_ofNat_of_zero_le hr.1
  refine Ev.gen fun Q q => ?_
  refine Ev_body (fd := c125) rfl rfl rfl ?_
  simp -implicitDefEqProofs (maxSteps := 999999) (disch := first | with_reducible rfl | omega | (simp only [nA, nS, nD] <;> omega) | fail) only [c125, go_sem, hs.cells gT, hs.cells gP]
  refine lmatch_ev hs.wf (ht.mono hs) g (show i < t.pieces.length by omega) (show k < t.pieces.length by omega) _ fun h2 s2 => ?_
  simp -implicitDefEqProofs (maxSteps := 999999) (disch := first | with_reducible rfl | omega | (simp only [nA, nS, nD] <;> omega) | fail) only [go_sem]
  refine q _ _ ⟨?_, s2⟩
  have : mT t (i : Int) (k : Int) = MM t i k := by simp only [mT, Int.toNat_natCast]; exact MM_comm g k i
  rw [this]
set_option maxHeartbeats 4000000 in
theorem lsorting_ev {h : H} {E L P x : V} {t : Tb} {S : List (List Int)} (hw : h.wf) (ht : TbIs h (.agg [E, L, P]) t) (g : Good t) (hx : LsRd h x S) (hl : S.length ≤ 1000) (hll : ∀ l ∈ S, l.length ≤ 1000) (Q : V → H → Prop) (q : ∀ h', h.Sub h' → Q (.bool (lsR t [] S)) h') :
    Ev fnG fastA (.fn 64 [] []) [.agg [E, L, P], x] h Q := by
  have ht0 := ht
  obtain ⟨_, _, _, e0, aE, aL, aP⟩ := ht
  cases e0
  have gp := g.pieces
  have hlP := aP.lenE
  have hlx := hx.len
  refine Ev_body (fd := c64) rfl rfl rfl ?_
  have s1 : h.Sub (h.add (.cells .rw [E, L, P])) := (H.Sub.refl hw).add _
  have g2 : (h.add (.cells .rw [E, L, P])).cells h.next = some [E, L, P] := cells_add_new rfl
  simp -implicitDefEqProofs (maxSteps := 999999) (disch := first | with_reducible rfl | omega | (simp only [nA, nS, nD] <;> omega) | fail) only [c64, go_sem, hlx]
  generalize h.add (.cells .rw [E, L, P]) = h5 at s1 g2 ⊢
  have flen : ∀ k, ((S.take k).flatten).length ≤ 1000000 := fun k => by
    have : ∀ (T : List (List Int)), (∀ l ∈ T, l.length ≤ 1000) → T.flatten.length ≤ T.length * 1000 := fun T => by
      induction T with
      | nil => simp
      | cons a T ih =>
        intro hT
        have h1 := ih fun l hl => hT l (by simp [hl])
        have h2 := hT a (by simp)
        simp only [List.flatten_cons, List.length_append, List.length_cons, Nat.add_mul]; omega
    have h1 := this (S.take k) fun l hl => hll l (List.mem_of_mem_take hl)
    have h2 : (S.take k).length ≤ 1000 := by rw [List.length_take]; omega
    have := Nat.mul_le_mul_right 1000 h2
    omega
  refine W_count S.length (fun k s => ∃ tm h' y, s = ⟨tm, h', []⟩ ∧ OwnSl h5 h' y 1 ((S.take k).flatten.map encI) ∧ lsR t [] S = lsR t (S.take k).flatten (S.drop k) ∧ (Opd.t 2).ev tm = .ptr h.next 0 ∧ (Opd.t 5).ev tm = y ∧ (Opd.t 10).ev tm = x ∧ (Opd.t 11).ev tm = .int .i64 (S.length : Int) ∧ (Opd.t 12).ev tm = .int .i64 (k : Int))
    ?_ ?_ (i := 0) (Nat.zero_le _) ⟨_, _, .nils, rfl, OwnSl.nil (H.Sub.refl s1.wf) 1, rfl, (by simp [ev_c, ev_put] <;> rfl), (by simp [ev_c, ev_put] <;> rfl), (by simp [ev_c, ev_put] <;> rfl), (by simp [ev_c, ev_put] <;> rfl), (by simp [ev_c, ev_put] <;> rfl)⟩
  · rintro k s hk ⟨tm, h', y, rfl, oy, hR, t2, t5, t10, t11, t12⟩
    have hk' : (k : Int) < (S.length : Int) := by omega
    have hs := oy.1
    have sh := s1.trans hs
    obtain ⟨F, b, o, cs, v, m1, m2, m3, cv⟩ := (hx.mono sh).row hk
    have hml := hll _ (List.getElem_mem hk)
    obtain ⟨l, el⟩ : ∃ l, S[k] = l := ⟨_, rfl⟩
    have edr : S.drop k = l :: S.drop (k + 1) := by rw [List.drop_eq_getElem_cons hk, el]
    have etk : (S.take (k + 1)).flatten = (S.take k).flatten ++ l := by rw [List.take_add_one, List.getElem?_eq_getElem hk, el]; simp
    rw [el] at cv hml
    rw [edr] at hR
    have hfl := flen k
    generalize (S.take k).flatten = seen at oy hR etk hfl
    have sv := cv.sl (by simp only [List.length_map]; omega)
    have lv := sv.lenE
    have osl := oy.sl (by simp only [List.length_map]; omega)
    simp -implicitDefEqProofs (maxSteps := 999999) (disch := first | with_reducible rfl | omega | (simp only [nA, nS, nD] <;> omega) | fail) only [go_sem, t2, t5, t10, t11, t12, hk', m1, m2, m3, lv]
    refine W_count l.length (fun i s => ∃ tm hq, s = ⟨tm, hq, []⟩ ∧ h'.Sub hq ∧ (∀ i', i' < i → rowOk t seen l i' = true) ∧ (Opd.t 2).ev tm = .ptr h.next 0 ∧ (Opd.t 5).ev tm = y ∧ (Opd.t 7).ev tm = v ∧ (Opd.t 10).ev tm = x ∧ (Opd.t 11).ev tm = .int .i64 (S.length : Int) ∧ (Opd.t 12).ev tm = .int .i64 (k : Int) ∧ (Opd.t 16).ev tm = v ∧ (Opd.t 17).ev tm = .int .i64 (l.length : Int) ∧ (Opd.t 18).ev tm = .int .i64 (i : Int))
      ?_ ?_ (i := 0) (Nat.zero_le _) ⟨_, _, rfl, H.Sub.refl hs.wf, fun i' h0 => by omega, (by simp [ev_c, ev_put, t2] <;> rfl), (by simp [ev_c, ev_put, t5] <;> rfl), (by simp [ev_c, ev_put] <;> rfl), (by simp [ev_c, ev_put, t10] <;> rfl), (by simp [ev_c, ev_put, t11] <;> rfl), (by simp [ev_c, ev_put, t12] <;> rfl), (by simp [ev_c, ev_put] <;> rfl), (by simp [ev_c, ev_put] <;> rfl), (by simp [ev_c, ev_put] <;> rfl)⟩
    · clear t2 t5 t10 t11 t12
      rintro i s hi ⟨tm, hq, rfl, sq, hok, t2, t5, t7, t10, t11, t12, t16, t17, t18⟩
      have hi' : (i : Int) < (l.length : Int) := by omega
      obtain ⟨b1, o1, cs1, f1, f2, f3⟩ : ∃ b o cs, q_iad 1 v (.int .i64 (i : Int)) = some (.ptr b o) ∧ hq.cells b = some cs ∧ nth o cs = some (.int .i64 l[i]) := by
        obtain ⟨b, o, c, cs, e1, e2, e3, _, _, e4⟩ := (sv.mono sq).at hi
        have e5 := e4 (by omega)
        exact ⟨b, o + i * 1, cs, e3 (nat_cst i), e2, by rw [e5]; rfl⟩
      have sB := (H.Sub.refl sq.wf).add (.cells .rw [.int .i64 l[i]])
      have g9 : (hq.add (.cells .rw [.int .i64 l[i]])).cells hq.next = some [.int .i64 l[i]] := cells_add_new rfl
      have s5q := hs.trans (sq.trans sB)
      have g2B := s5q.cells g2
      have f2B := sB.cells f2
      have rbad : rowOk t seen l i = false → lsR t [] S = false := fun h0 => by rw [hR]; exact lsR_bad hi h0
      have rdef : rowOk t seen l i = (decide (0 ≤ l[i] ∧ l[i] < (t.pieces.length : Int)) && (decide (i = 0) || decide (l.getD (i - 1) 0 < l[i])) && (!(seen.any fun r => decide (l[i] = r)) && (l.take i).all fun q => mT t l[i] q)) := by
        unfold rowOk; rw [List.getElem?_eq_getElem hi]
      have hadd : ∀ hz, (hq.add (.cells .rw [.int .i64 l[i]])).Sub hz → h.Sub hz := fun hz s => s1.trans (s5q.trans s)
      simp -implicitDefEqProofs (maxSteps := 999999) (disch := first | with_reducible rfl | omega | (simp only [nA, nS, nD] <;> omega) | fail) only [go_sem, t2, t5, t7, t10, t11, t12, t16, t17, t18, hi', f1, f2, f3]
      generalize hq.add (.cells .rw [.int .i64 l[i]]) = hB at sB g9 s5q g2B f2B hadd ⊢
      by_cases r0 : l[i] < 0
      · have hb : rowOk t seen l i = false := by rw [rdef, decide_eq_false (by omega)]; rfl
        have d0 : decide (l[i] < 0) = true := decide_eq_true r0
        have q' := q hB (hadd _ (H.Sub.refl sB.wf))
        rw [rbad hb] at q'
        simp -implicitDefEqProofs (maxSteps := 999999) (disch := first | with_reducible rfl | omega | (simp only [nA, nS, nD] <;> omega) | fail) only [go_sem, t2, t5, t7, t10, t11, t12, t16, t17, t18, g9, d0]
        exact q'
      by_cases r1 : (t.pieces.length : Int) ≤ l[i]
      · have hb : rowOk t seen l i = false := by rw [rdef, decide_eq_false (by omega)]; rfl
        have q' := q hB (hadd _ (H.Sub.refl sB.wf))
        rw [rbad hb] at q'
        simp -implicitDefEqProofs (maxSteps := 999999) (disch := first | with_reducible rfl | omega | (simp only [nA, nS, nD] <;> omega) | fail) only [go_sem, t2, t5, t7, t10, t11, t12, t16, t17, t18, g9, r0, r1, g2B, hlP]
        exact q'
      rw [decide_eq_true (show 0 ≤ l[i] ∧ l[i] < (t.pieces.length : Int) by omega), Bool.true_and] at rdef
      -- the one before it
      obtain ⟨up, hup, hst⟩ : ∃ up : Bool, (decide (i = 0) || decide (l.getD (i - 1) 0 < l[i])) = up ∧ ((i = 0 ∧ up = true) ∨ ∃ j, i = j + 1 ∧ ∃ hj : j < l.length, up = decide (l[j] < l[i])) := by
        cases i with
        | zero => exact ⟨true, rfl, .inl ⟨rfl, rfl⟩⟩
        | succ j => exact ⟨_, rfl, .inr ⟨j, rfl, by omega, by
            have : l.getD (j + 1 - 1) 0 = l[j]'(by omega) := by rw [Nat.add_sub_cancel, List.getD_eq_getElem?_getD, List.getElem?_eq_getElem (by omega)]; rfl
            rw [this]; simp⟩⟩
      rw [hup] at rdef
      have hin : ∀ a ∈ l.take i, 0 ≤ a ∧ a < (t.pieces.length : Int) := fun a ha => by
        obtain ⟨j, hj, rfl⟩ := List.getElem_of_mem ha
        rw [List.length_take] at hj
        rw [List.getElem_take]
        have := hok j (by omega)
        unfold rowOk at this
        rw [List.getElem?_eq_getElem (by omega)] at this
        simp only [Bool.and_eq_true, decide_eq_true_eq] at this
        exact this.1.1
      rcases hst with ⟨rfl, rfl⟩ | ⟨j, rfl, hj, hud⟩
      · have z1 : ¬ (0 : Int) < ((0 : Nat) : Int) := by omega
        simp -implicitDefEqProofs (maxSteps := 999999) (disch := first | with_reducible rfl | omega | (simp only [nA, nS, nD] <;> omega) | fail) only [go_sem, t2, t5, t7, t10, t11, t12, t16, t17, t18, g9, r0, r1, g2B, hlP, z1]
        refine hasInt_ev sB.wf ((osl.mono sq).mono sB) l[0] _ fun hC sC => ?_
        cases hs1 : seen.any fun r => decide (l[0] = r) with
        | true =>
          have hb : rowOk t seen l 0 = false := by rw [rdef, hs1]; simp
          have q' := q hC (hadd _ sC)
          rw [rbad hb] at q'
          simp -implicitDefEqProofs (maxSteps := 999999) (disch := first | with_reducible rfl | omega | (simp only [nA, nS, nD] <;> omega) | fail) only [go_sem, t2, t5, t7, t10, t11, t12, t16, t17, t18, g9, g2B]
          exact q'
        | false =>
          rw [hs1] at rdef
          have sBC := sB.trans sC
          obtain ⟨ys, hys, cys, _⟩ := ((cv.mono sq).mono sBC).to (k := 0) (by omega) (by simp only [List.length_map]; omega) (by simp only [List.length_map]; omega)
          rw [← List.map_take] at cys
          have s5C := s5q.trans sC
          simp -implicitDefEqProofs (maxSteps := 999999) (disch := first | with_reducible rfl | omega | (simp only [nA, nS, nD] <;> omega) | fail) only [go_sem, t2, t5, t7, t10, t11, t12, t16, t17, t18, g9, sC.cells g9, g2B, evQ_slc, q_slc_to, hys]
          refine (containsFuncInt_ev (p := fun q => !mT t l[0] q) sC.wf (cys.sl (by simp only [List.length_map, List.length_take]; omega)) fun a ha => sorting1_ev g (sC.cells g2B) (ht0.mono (s1.trans s5C)) (sC.cells g9) (by omega) (hin a ha)).mono fun u hD hu => ?_
          obtain ⟨rfl, sD⟩ := hu
          have eall : ((l.take (0)).all fun q => mT t l[0] q) = !((l.take (0)).any fun q => !mT t l[0] q) := List.all_eq_not_any_not
          rw [eall] at rdef
          cases hs2 : (l.take (0)).any fun q => !mT t l[0] q with
          | true =>
            rw [hs2] at rdef
            have q' := q hD (hadd _ (sC.trans sD))
            rw [rbad (by rw [rdef]; simp)] at q'
            simp -implicitDefEqProofs (maxSteps := 999999) (disch := first | with_reducible rfl | omega | (simp only [nA, nS, nD] <;> omega) | fail) only [go_sem, t2, t5, t7, t10, t11, t12, t16, t17, t18, sC.cells g9, g9, g2B, sC.cells g2B, hys, evQ_slc, q_slc_to]
            exact q'
          | false =>
            rw [hs2] at rdef
            simp -implicitDefEqProofs (maxSteps := 999999) (disch := first | with_reducible rfl | omega | (simp only [nA, nS, nD] <;> omega) | fail) only [go_sem, t2, t5, t7, t10, t11, t12, t16, t17, t18, sC.cells g9, g9, g2B, sC.cells g2B, hys, evQ_slc, q_slc_to, wr_succ]
            exact ⟨_, _, rfl, (sq.trans sBC).trans sD, fun i' h1 => by
              by_cases e : i' = 0
              · rw [e, rdef]; rfl
              · exact hok i' (by omega), (by simp [ev_c, ev_put, t2] <;> rfl), (by simp [ev_c, ev_put, t5] <;> rfl), (by simp [ev_c, ev_put, t7] <;> rfl), (by simp [ev_c, ev_put, t10] <;> rfl), (by simp [ev_c, ev_put, t11] <;> rfl), (by simp [ev_c, ev_put, t12] <;> rfl), (by simp [ev_c, ev_put, t16] <;> rfl), (by simp [ev_c, ev_put, t17] <;> rfl), (by simp [ev_c, ev_put] <;> rfl)⟩
      · have z1 : (0 : Int) < ((j + 1 : Nat) : Int) := by omega
        have z4 : ((j + 1 : Nat) : Int) - 1 = (j : Int) := by omega
        obtain ⟨b3, o3, cs3, u1, u2, u3⟩ : ∃ b o cs, q_iad 1 v (.int .i64 (j : Int)) = some (.ptr b o) ∧ hB.cells b = some cs ∧ nth o cs = some (.int .i64 l[j]) := by
          obtain ⟨b, o, c, cs, e1, e2, e3, _, _, e4⟩ := ((sv.mono sq).mono sB).at hj
          have e5 := e4 (by omega)
          exact ⟨b, o + j * 1, cs, e3 (nat_cst j), e2, by rw [e5]; rfl⟩
        cases up with
        | false =>
          have hb : rowOk t seen l (j + 1) = false := by rw [rdef]; rfl
          have hle : l[j + 1] ≤ l[j] := by have := of_decide_eq_false hud.symm; omega
          have q' := q hB (hadd _ (H.Sub.refl sB.wf))
          rw [rbad hb] at q'
          simp -implicitDefEqProofs (maxSteps := 999999) (disch := first | with_reducible rfl | omega | (simp only [nA, nS, nD] <;> omega) | fail) only [go_sem, t2, t5, t7, t10, t11, t12, t16, t17, t18, g9, r0, r1, g2B, hlP, z1, z4, wr_in, u1, u2, u3, hle]
          exact q'
        | true =>
          have hle : ¬ l[j + 1] ≤ l[j] := by have := of_decide_eq_true hud.symm; omega
          simp -implicitDefEqProofs (maxSteps := 999999) (disch := first | with_reducible rfl | omega | (simp only [nA, nS, nD] <;> omega) | fail) only [go_sem, t2, t5, t7, t10, t11, t12, t16, t17, t18, g9, r0, r1, g2B, hlP, z1, z4, wr_in, u1, u2, u3, hle]
          refine hasInt_ev sB.wf ((osl.mono sq).mono sB) l[j + 1] _ fun hC sC => ?_
          cases hs1 : seen.any fun r => decide (l[j + 1] = r) with
          | true =>
            have hb : rowOk t seen l (j + 1) = false := by rw [rdef, hs1]; simp
            have q' := q hC (hadd _ sC)
            rw [rbad hb] at q'
            simp -implicitDefEqProofs (maxSteps := 999999) (disch := first | with_reducible rfl | omega | (simp only [nA, nS, nD] <;> omega) | fail) only [go_sem, t2, t5, t7, t10, t11, t12, t16, t17, t18, g9, g2B, u2, u3]
            exact q'
          | false =>
            rw [hs1] at rdef
            have sBC := sB.trans sC
            obtain ⟨ys, hys, cys, _⟩ := ((cv.mono sq).mono sBC).to (k := j + 1) (by omega) (by simp only [List.length_map]; omega) (by simp only [List.length_map]; omega)
            rw [← List.map_take] at cys
            have s5C := s5q.trans sC
            simp -implicitDefEqProofs (maxSteps := 999999) (disch := first | with_reducible rfl | omega | (simp only [nA, nS, nD] <;> omega) | fail) only [go_sem, t2, t5, t7, t10, t11, t12, t16, t17, t18, g9, sC.cells g9, g2B, u2, u3, evQ_slc, q_slc_to, hys]
            refine (containsFuncInt_ev (p := fun q => !mT t l[j + 1] q) sC.wf (cys.sl (by simp only [List.length_map, List.length_take]; omega)) fun a ha => sorting1_ev g (sC.cells g2B) (ht0.mono (s1.trans s5C)) (sC.cells g9) (by omega) (hin a ha)).mono fun u hD hu => ?_
            obtain ⟨rfl, sD⟩ := hu
            have eall : ((l.take (j + 1)).all fun q => mT t l[j + 1] q) = !((l.take (j + 1)).any fun q => !mT t l[j + 1] q) := List.all_eq_not_any_not
            rw [eall] at rdef
            cases hs2 : (l.take (j + 1)).any fun q => !mT t l[j + 1] q with
            | true =>
              rw [hs2] at rdef
              have q' := q hD (hadd _ (sC.trans sD))
              rw [rbad (by rw [rdef]; simp)] at q'
              simp -implicitDefEqProofs (maxSteps := 999999) (disch := first | with_reducible rfl | omega | (simp only [nA, nS, nD] <;> omega) | fail) only [go_sem, t2, t5, t7, t10, t11, t12, t16, t17, t18, sC.cells g9, g9, g2B, sC.cells g2B, u2, u3, hys, evQ_slc, q_slc_to]
              exact q'
            | false =>
              rw [hs2] at rdef
              simp -implicitDefEqProofs (maxSteps := 999999) (disch := first | with_reducible rfl | omega | (simp only [nA, nS, nD] <;> omega) | fail) only [go_sem, t2, t5, t7, t10, t11, t12, t16, t17, t18, sC.cells g9, g9, g2B, sC.cells g2B, u2, u3, hys, evQ_slc, q_slc_to, wr_succ]
              exact ⟨_, _, rfl, (sq.trans sBC).trans sD, fun i' h1 => by
                by_cases e : i' = j + 1
                · rw [e, rdef]; rfl
                · exact hok i' (by omega), (by simp [ev_c, ev_put, t2] <;> rfl), (by simp [ev_c, ev_put, t5] <;> rfl), (by simp [ev_c, ev_put, t7] <;> rfl), (by simp [ev_c, ev_put, t10] <;> rfl), (by simp [ev_c, ev_put, t11] <;> rfl), (by simp [ev_c, ev_put, t12] <;> rfl), (by simp [ev_c, ev_put, t16] <;> rfl), (by simp [ev_c, ev_put, t17] <;> rfl), (by simp [ev_c, ev_put] <;> rfl)⟩
    · clear t2 t5 t10 t11 t12
      rintro s ⟨tm, hq, rfl, sq, hok, t2, t5, t7, t10, t11, t12, t16, t17, t18⟩
      have hall : (List.range l.length).all (rowOk t seen l) = true := List.all_eq_true.2 fun i hi => hok i (List.mem_range.1 hi)
      have oyq := oy.mono sq
      cases hl0 : l with
      | nil =>
        have hb : lsR t [] S = false := by rw [hR, hl0]; unfold lsR; simp
        have e0 : (l.length : Int) = 0 := by rw [hl0]; rfl
        have hap := oyq.app0 (by_ := 8) (by omega) (y := v) (by have := sv.mono sq; rw [hl0] at this; exact this)
        have d0 : decide ((0 : Int) = 0) = true := rfl
        rw [e0] at t17 lv
        have hlt : ¬ ((l.length : Nat) : Int) < 0 := by omega
        have q' := q hq (s1.trans (hs.trans sq))
        rw [hb] at q'
        rw [hl0] at t18
        simp -implicitDefEqProofs (maxSteps := 999999) (disch := first | with_reducible rfl | omega | (simp only [nA, nS, nD] <;> omega) | fail) only [go_sem, t2, t5, t7, t10, t11, t12, t16, t17, t18, lv, Int.lt_irrefl, hap, d0, List.length_nil, Int.natCast_zero]
        exact q'
      | cons a0 l0 =>
        have h0 : 0 < l.length := by rw [hl0]; simp
        have hne : decide ((l.length : Int) = 0) = false := decide_eq_false (by omega)
        obtain ⟨he, hle⟩ := (sv.mono sq).elems
        have hone : allOne (l.map encI).flatten = true := by
          rw [allOne_eq]
          intro v hv
          obtain ⟨r, hr, hv⟩ := List.mem_flatten.1 hv
          obtain ⟨e, _, rfl⟩ := List.mem_map.1 hr
          simp only [encI, List.mem_singleton] at hv
          subst hv; rfl
        simp -implicitDefEqProofs (maxSteps := 999999) (disch := first | with_reducible rfl | omega | (simp only [nA, nS, nD] <;> omega) | fail) only [go_sem, t2, t5, t7, t10, t11, t12, t16, t17, t18, Int.lt_irrefl]
        refine oyq.app (by_ := 8) s1.wf (new := l.map encI) (by rw [hl0]; simp) (fun r hr => by obtain ⟨_, _, rfl⟩ := List.mem_map.1 hr; rfl) he hle hone (by simp only [List.length_map]; omega) (by simp only [List.length_map]; omega) fun h2 o2 k2 n2 => ?_
        rw [← List.map_append, ← etk] at o2
        simp -implicitDefEqProofs (maxSteps := 999999) (disch := first | with_reducible rfl | omega | (simp only [nA, nS, nD] <;> omega) | fail) only [go_sem, t2, t5, t7, t10, t11, t12, t16, t17, t18, lv, hne, wr_succ]
        refine ⟨_, _, _, rfl, o2, ?_, (by simp [ev_c, ev_put, t2] <;> rfl), (by simp [ev_c, ev_put] <;> rfl), (by simp [ev_c, ev_put, t10] <;> rfl), (by simp [ev_c, ev_put, t11] <;> rfl), (by simp [ev_c, ev_put] <;> rfl)⟩
        rw [hR, etk]
        conv => lhs; unfold lsR
        rw [hall, hl0]; rfl
  · rintro s ⟨tm, h', y, rfl, oy, hR, t2, t5, t10, t11, t12⟩
    have hs := oy.1
    have hfl := flen S.length
    have ly := (oy.sl (by simp only [List.length_map]; omega)).lenE
    rw [List.drop_length] at hR
    simp only [lsR] at hR
    rw [hR] at q
    simp -implicitDefEqProofs (maxSteps := 999999) (disch := first | with_reducible rfl | omega | (simp only [nA, nS, nD] <;> omega) | fail) only [go_sem, t2, t5, t10, t11, t12, Int.lt_irrefl, ly, hs.cells g2, hlP]
    exact q _ (s1.trans hs)
end Try
end Go.Ab
set_option linter.unusedSimpArgs false
set_option linter.unusedVariables false
namespace Go.Ab.Try
open Go.Ab.Silk (Inc lexlt IsMin before)
theorem lsR_of {t : Tb} (g : Good t) : ∀ (S : List (List Int)) (seen : List Int), (∀ l ∈ S, l ≠ [] ∧ l.Pairwise (· < ·) ∧ (l.Pairwise fun a b => mT t a b = true) ∧ ∀ x ∈ l, 0 ≤ x ∧ x < (t.pieces.length : Int)) → (seen ++ S.flatten).Nodup → seen.length + S.flatten.length = t.pieces.length → lsR t seen S = true
  | [], seen, _, _, hl => by
    simp only [lsR, List.flatten_nil, List.length_nil, Nat.add_zero] at hl ⊢
    simp [hl]
  | l :: S, seen, h, nd, hl => by
    obtain ⟨h1, h2, h3, h4⟩ := h l (by simp)
    rw [List.flatten_cons] at nd hl
    have ih := lsR_of g S (seen ++ l) (fun l hl => h l (by simp [hl])) (by rw [List.append_assoc]; exact nd) (by rw [List.length_append] at hl ⊢; omega)
    have nd2 := nd
    rw [← List.append_assoc] at nd2
    obtain ⟨nd3, _, _⟩ := List.nodup_append.1 nd2
    obtain ⟨_, _, nd4⟩ := List.nodup_append.1 nd3
    unfold lsR
    rw [ih, Bool.and_true, Bool.and_eq_true]
    refine ⟨List.all_eq_true.2 fun i hi => ?_, by cases l with | nil => exact absurd rfl h1 | cons a l => rfl⟩
    have hi := List.mem_range.1 hi
    have hm := List.getElem_mem hi
    unfold rowOk
    rw [List.getElem?_eq_getElem hi]
    simp only [Bool.and_eq_true, Bool.or_eq_true, decide_eq_true_eq, Bool.not_eq_true', List.any_eq_false, List.all_eq_true]
    refine ⟨⟨h4 _ hm, ?_⟩, fun x hx e => ?_, fun q hq => ?_⟩
    · by_cases e : i = 0
      · exact .inl e
      · right
        have : l.getD (i - 1) 0 = l[i - 1] := by rw [List.getD_eq_getElem?_getD, List.getElem?_eq_getElem (by omega)]; rfl
        rw [this]
        exact List.pairwise_iff_getElem.1 h2 (i - 1) i (by omega) hi (by omega)
    · exact nd4 x hx l[i] hm (by simpa using e.symm)
    · obtain ⟨j, hj, rfl⟩ := List.getElem_of_mem hq
      rw [List.length_take] at hj
      rw [List.getElem_take, mT_comm g]
      exact List.pairwise_iff_getElem.1 h3 j i (by omega) hi (by omega)
theorem srt_ls {t : Tb} (g : Good t) {S : List (List Int)} (a : Srt (mT t) t.pieces.length S) : lsR t [] S = true :=
  lsR_of g S [] (fun l hl => ⟨a.ne l hl, a.up l hl, a.go l hl, fun x hx => a.mem hl hx⟩) (by rw [List.nil_append]; exact a.all.nodup_iff.2 (upto_nodup _)) (by rw [List.length_nil, Nat.zero_add]; exact a.len)
theorem few_min {t : Tb} {c l : List Int} (hc : few t = some c) (inc : Inc t.eyes.length 0 l) (hl : enoughB t l = true) : c.length ≤ l.length ∧ (l.length = c.length → ¬ cmpL l c < 0) := by
  obtain ⟨c', e, m⟩ := few_some t
  rw [hc] at e; cases e
  rcases m.min l inc hl with rfl | h
  · exact ⟨Nat.le_refl _, fun _ hlt => by rw [cmpL_lex rfl, Silk.lexlt_irrefl] at hlt; cases hlt⟩
  · unfold Silk.before at h
    split at h
    · rename_i e
      refine ⟨by omega, fun e2 hlt => ?_⟩
      rw [cmpL_lex e2] at hlt
      have := Silk.lexlt_trans h hlt
      rw [Silk.lexlt_irrefl] at this; cases this
    · rename_i e
      simp only [decide_eq_true_eq] at h
      exact ⟨by omega, fun e2 => absurd e2.symm e⟩
theorem str_is {h' : H} {y : V} {t : Tb} (a : LsOut h' y (strR t)) : ∃ c, CutI h' y c ∧ Inc t.pieces.length 0 c ∧ (∀ x ∈ c, ∀ z ∈ c, x ≠ z → mT t x z = false) ∧ c.length = alpha (fun a b => !mT t a b) t.pieces.length := by
  unfold LsOut strR at a
  unfold alpha
  rcases lastOf_spec (mostP (fun a b => !mT t a b) fun _ => true) t.pieces.length t.pieces.length with ⟨c, e, b⟩ | ⟨e, b⟩
  · rw [e] at a ⊢
    exact ⟨c, a, b.inc, fun x hx z hz hne => by have := mostP_iff.1 b.holds x hx z hz hne; simpa using this, rfl⟩
  · rw [e] at a ⊢
    refine ⟨[], by rw [a]; exact CutI.nil _, (show Inc _ 0 [] from trivial), (fun x hx => by cases hx), rfl⟩
end Go.Ab.Try
set_option linter.unusedSimpArgs false
set_option linter.unusedVariables false
namespace Go.Ab
namespace Try
open Go.Ab.Silk (Inc lexlt IsMin)
end Try
end Go.Ab
set_option linter.unusedSimpArgs false
set_option linter.unusedVariables false
namespace Go.Ab.Try
open Go.Ab.Silk (Inc lexlt IsMin)
theorem inc_eyes {t : Tb} {l : List Int} (g : Good t) (inc : Inc t.eyes.length 0 l) : lstE t l = 0 ∧ enR t l = enoughB t l := by
  have e : lstE t l = 0 := by
    unfold lstE
    have h1 : l.all (isEy t) = true := List.all_eq_true.2 fun x hx => by have := inc.mem x hx; simp [isEy]; omega
    have h2 : decide (l.Pairwise (· < ·)) = true := decide_eq_true (Inc.pw inc)
    rw [if_neg (by simp [check_iff.2 g]), if_neg (by simp [h1]), if_neg (by rw [h2]; simp)]
  exact ⟨e, by unfold enR; rw [e]; simp⟩
end Go.Ab.Try
set_option linter.unusedSimpArgs false
set_option linter.unusedVariables false
namespace Go.Ab.Try
open Go.Ab.Silk (Inc lexlt IsMin)
theorem SlAt.elemF {h : H} {v : V} {l : List Int} (a : SlAt h v 1 (l.map encI)) {j : Nat} (hj : j < l.length) : ∃ b o cs, q_iad 1 v (.int .i64 (j : Int)) = some (.ptr b o) ∧ h.cells b = some cs ∧ nth o cs = some (.int .i64 l[j]) := by
  obtain ⟨b, o, c, cs, e1, e2, e3, _, _, e4⟩ := a.at hj
  have e5 := e4 (by omega)
  exact ⟨b, o + j * 1, cs, e3 (nat_cst j), e2, by rw [e5]; rfl⟩
theorem found1_ev {h : H} {bT bP : Nat} {E L P : V} {t : Tb} (g : Good t) (gT : h.cells bT = some [E, L, P]) (ht : TbIs h (.agg [E, L, P]) t) {p : Int} (gP : h.cells bP = some [.int .i64 p]) (hp : 0 ≤ p ∧ p < (t.pieces.length : Int)) {r : Int} (hr : 0 ≤ r ∧ r < (t.pieces.length : Int)) :
    PureA h (.fn 65 [] [.ptr bT 0, .ptr bP 0]) [.int .i64 r] (.bool (mT t p r)) := by
  intro h1 hs
  obtain ⟨i, rfl⟩ := Int.eq_ofNat_of_zero_le hp.1
  obtain ⟨k, rfl⟩ := Int.eq_ofNat_of_zero_le hr.1
  refine Ev.gen fun Q q => ?_
  refine Ev_body (fd := c65) rfl rfl rfl ?_
  simp -implicitDefEqProofs (maxSteps := 999999) (disch := first | with_reducible rfl | omega | (simp only [nA, nS, nD] <;> omega) | fail) only [c65, go_sem, hs.cells gT, hs.cells gP]
  refine lmatch_ev hs.wf (ht.mono hs) g (show i < t.pieces.length by omega) (show k < t.pieces.length by omega) _ fun h2 s2 => ?_
  simp -implicitDefEqProofs (maxSteps := 999999) (disch := first | with_reducible rfl | omega | (simp only [nA, nS, nD] <;> omega) | fail) only [go_sem]
  refine q _ _ ⟨?_, s2⟩
  have : mT t (i : Int) (k : Int) = MM t i k := by simp only [mT, Int.toNat_natCast]; exact MM_comm g k i
  rw [this]
theorem any_scrap {t : Tb} {a : Sd} {p : Nat} : ∀ {n : Nat}, n ≤ t.pieces.length → ((scrapK t a n).any fun r => decide ((p : Int) = r)) = (decide (p < n) && match t.pieces[p]? with | some b => alike t a b | none => false)
  | 0, _ => by simp [scrapK]
  | n + 1, h => by
    rw [scrapK_step (by omega), List.any_append, any_scrap (n := n) (by omega)]
    by_cases e : p = n
    · subst e
      rw [List.getElem?_eq_getElem (by omega)]
      have h1 : decide (p < p) = false := decide_eq_false (by omega)
      have h2 : decide (p < p + 1) = true := decide_eq_true (by omega)
      rw [h1, h2]
      cases hal : alike t a (t.pieces[p]'(by omega)) <;> simp [hal]
    · have h1 : decide (p < n + 1) = decide (p < n) := by rw [decide_eq_decide]; omega
      rw [h1]
      have h2 : ((if alike t a (t.pieces[n]'(by omega)) = true then [(n : Int)] else []).any fun r => decide ((p : Int) = r)) = false := by
        split
        · simp; omega
        · rfl
      rw [h2, Bool.or_false]
set_option maxRecDepth 4000 in
set_option maxHeartbeats 8000000 in
theorem EyeFound_ev {h : H} {x y : V} {bs cs : List Int} (hw : h.wf) (hx : SlAt h x 1 (bs.map encU8)) (hy : SlAt h y 1 (cs.map encU8)) :
    Ev fnG fastA (.fn 10 [] []) [x, y] h (fun u _ => u = .bool true) := by
  refine Ev_body (fd := c10) rfl rfl rfl ?_
  simp -implicitDefEqProofs (maxSteps := 999999) (disch := first | with_reducible rfl | omega | (simp only [nA, nS, nD] <;> omega) | fail) only [c10, go_sem]
  refine Wound_ev hw hx _ fun h1 s1 sp1 n1 => ?_
  simp -implicitDefEqProofs (maxSteps := 999999) (disch := first | with_reducible rfl | omega | (simp only [nA, nS, nD] <;> omega) | fail) only [go_sem]
  refine Made_ev s1 hw hx (Nat.le_refl _) sp1 (by omega) (by omega) (by omega) (by omega) _ fun X Y Z t hM T g hp7 he6 hl4 hT m => ?_
  obtain ⟨sM, iM, pM⟩ := m.is g hw (by omega) (by omega)
  have cZ : CutO (fun _ => True) (hM.set h1.next (.cells .rw [X, Y, Z])) Z 3 (t.pieces.map encD) := ((m.oz.c.cutO).up fun _ _ _ => trivial).keep (Keeps.set hM h1.next _) fun b hb e => by subst e; exact m.oz.ne m.g8 hb
  have x1 := OwnC.one m.ox.c
  have y1 := OwnC.one m.oy.c
  have z1 := OwnC.one m.oz.c
  simp -implicitDefEqProofs (maxSteps := 999999) (disch := first | with_reducible rfl | omega | (simp only [nA, nS, nD] <;> omega) | fail) only [go_sem, x1, y1, z1, cells_one x1, cells_one y1, cells_one z1]
  have nN : (hM.set h1.next (.cells .rw [X, Y, Z])).next = hM.next := H.next_set _ _ _
  generalize hM.set h1.next (.cells .rw [X, Y, Z]) = hN at sM iM pM nN cZ ⊢
  have s2 := (H.Sub.refl sM.wf).add (.cells .rw [X, Y, Z])
  have g7 : (hN.add (.cells .rw [X, Y, Z])).cells hN.next = some [X, Y, Z] := cells_add_new rfl
  have i2 := iM.mono s2
  have sN2 := sM.trans s2
  have cZ := cZ.mono s2
  generalize (hN.add (.cells .rw [X, Y, Z])) = h2 at s2 g7 i2 sN2 cZ ⊢
  rw [nN] at g7
  generalize hM.next = b7 at g7 ⊢
  refine Wound_ev s2.wf (hy.mono sN2) _ fun h3 s3 sp3 n3 => ?_
  simp -implicitDefEqProofs (maxSteps := 999999) (disch := first | with_reducible rfl | omega | (simp only [nA, nS, nD] <;> omega) | fail) only [go_sem]
  refine shade_ev s3 s2.wf (hy.mono sN2) (Nat.le_refl _) sp3 (by omega) (by omega) _ fun a h4 ha s4 sp4 k4 => ?_
  have ha20 := ha.up (show (7 : Int) ≤ 20 by omega)
  have sA := (H.Sub.refl s4.wf).add (.cells .rw [.int .i64 a.x, .int .i64 a.y, .int .i64 a.z])
  have g9 : (h4.add (.cells .rw [.int .i64 a.x, .int .i64 a.y, .int .i64 a.z])).cells h4.next = some [.int .i64 a.x, .int .i64 a.y, .int .i64 a.z] := cells_add_new rfl
  have s25 := s4.trans sA
  have sp5 := sp4.mono sA
  have k1 := fun hh (s : h2.Sub hh) => Scrap_ev (h := hh) s.wf (i2.mono s) a
  have c0 : check t = 0 := check_iff.2 g
  have o1 : oneE t a = 0 := by unfold oneE; rw [if_neg (by simp [c0]), if_neg (by simp [within_iff.2 ha20])]
  have r1 : scrapR t a = scrapK t a t.pieces.length := by unfold scrapR; rw [if_pos o1]
  rw [o1, r1] at k1
  simp only [encD] at k1
  have g75 := s25.cells g7
  simp -implicitDefEqProofs (maxSteps := 999999) (disch := first | with_reducible rfl | omega | (simp only [nA, nS, nD] <;> omega) | fail) only [go_sem, encD]
  generalize (h4.add (.cells .rw [.int .i64 a.x, .int .i64 a.y, .int .i64 a.z])) = h5 at sA g9 s25 sp5 g75 ⊢
  generalize h4.next = b9 at g9 ⊢
  simp -implicitDefEqProofs (maxSteps := 999999) (disch := first | with_reducible rfl | omega | (simp only [nA, nS, nD] <;> omega) | fail) only [go_sem, g9, g75]
  refine k1 h5 s25 _ fun u8 h6 s6 hu8 => ?_
  have s26 := s25.trans s6
  obtain ⟨cf, hcf, mf⟩ := few_some t
  have nn : ∀ n : Int, decide (n ≠ n) = false := fun n => by simp
  have gE := g.eyes
  have gP := g.pieces
  simp -implicitDefEqProofs (maxSteps := 999999) (disch := first | with_reducible rfl | omega | (simp only [nA, nS, nD] <;> omega) | fail) only [go_sem, s6.cells g75]
  refine Fewest_own s6.wf (i2.mono s26) _ fun y10 h7 s7 hy10 _ => ?_
  obtain ⟨hy10, ny10⟩ := hy10 cf c0 hcf
  rw [c0]
  have s27 := s26.trans s7
  simp -implicitDefEqProofs (maxSteps := 999999) (disch := first | with_reducible rfl | omega | (simp only [nA, nS, nD] <;> omega) | fail) only [go_sem, s27.cells g7]
  refine Sort_ev s7.wf (i2.mono s27) _ fun y12 h8 s8 hy12 => ?_
  rw [if_pos c0] at hy12
  rw [c0]
  have s28 := s27.trans s8
  simp -implicitDefEqProofs (maxSteps := 999999) (disch := first | with_reducible rfl | omega | (simp only [nA, nS, nD] <;> omega) | fail) only [go_sem, s28.cells g7]
  refine Strangers_ev s8.wf (i2.mono s28) _ fun y14 h9 s9 hy14 => ?_
  rw [if_pos c0] at hy14
  rw [c0]
  have s29 := s28.trans s9
  obtain ⟨cs', cy14, inc14, hno14, hl14⟩ := str_is hy14
  have l12 := LsCut.lenC (by omega) hy12
  have l14 := cy14.lenE
  obtain ⟨S, eS1, aS, hmS⟩ := sortR_spec (mT t) t.pieces.length
  rw [eS1] at hy12
  have hSl : S.length = chi (mT t) t.pieces.length := by unfold chi; rw [eS1]; rfl
  have hSb := chi_bd (mT t) t.pieces.length
  have hrd : LsRd h8 y12 S := LsCut.rd hy12 (by omega)
  have hlens : ∀ l ∈ S, l.length ≤ 1000 := fun l hl => by
    have h1 := nodup_len ((aS.up l hl).imp fun h => by omega) fun x hx => aS.mem hl hx
    omega
  simp -implicitDefEqProofs (maxSteps := 999999) (disch := first | with_reducible rfl | omega | (simp only [nA, nS, nD] <;> omega) | fail) only [go_sem, s29.cells g7]
  refine (check_ev s9.wf (i2.mono s29)).mono fun u hA hu => ?_
  obtain ⟨rfl, sA9⟩ := hu
  rw [c0]
  have s2A := s29.trans sA9
  have s7A := s8.trans (s9.trans sA9)
  simp -implicitDefEqProofs (maxSteps := 999999) (disch := first | with_reducible rfl | omega | (simp only [nA, nS, nD] <;> omega) | fail) only [go_sem, nn, s2A.cells g7]
  refine lenough_ev s2A.wf (i2.mono s2A) g (cZ.mono s2A) (hy10.mono s7A) _ fun hB sB => ?_
  rw [mf.holds]
  have s2B := s2A.trans sB
  simp -implicitDefEqProofs (maxSteps := 999999) (disch := first | with_reducible rfl | omega | (simp only [nA, nS, nD] <;> omega) | fail) only [go_sem, Bool.not_true, s2B.cells g7]
  refine lsorting_ev s2B.wf (i2.mono s2B) g (hrd.mono (s9.trans (sA9.trans sB))) (by omega) hlens _ fun hC sC => ?_
  rw [srt_ls g aS]
  have s2C := s2B.trans sC
  have nlt : ¬ ((chi (mT t) t.pieces.length : Nat) : Int) < (cs'.length : Int) := by
    have := alpha_chi (mT_comm g) t.pieces.length; omega
  obtain ⟨_, _, _, eT, aE, aL, aP⟩ := id i2
  cases eT
  have lP := aP.lenE
  have lE := aE.lenE
  have s5C := s6.trans (s7.trans (s7A.trans (sB.trans sC)))
  have g9C := s5C.cells g9
  have hu8C := hu8.mono (s7.trans (s7A.trans (sB.trans sC)))
  have cy14C := cy14.mono (sA9.trans (sB.trans sC))
  have hy10C := hy10.mono (s7A.trans (sB.trans sC))
  have spC := sp5.mono s5C
  have g7C := s2C.cells g7
  have iC := i2.mono s2C
  have aPC := aP.mono s2C
  simp -implicitDefEqProofs (maxSteps := 999999) (disch := first | with_reducible rfl | omega | (simp only [nA, nS, nD] <;> omega) | fail) only [go_sem, Bool.not_true, l12, l14, nlt, g7C, lP]
  refine W.mono (Q := fun x1 s => x1 = .ext 0 ∧ ∃ tm hh, s = ⟨tm, hh, []⟩ ∧ hC.Sub hh ∧ (Opd.t 5).ev tm = .ptr b7 0 ∧ (Opd.t 6).ev tm = .ptr h2.next 0 ∧ (Opd.t 10).ev tm = y10 ∧ (Opd.t 14).ev tm = y14)
   (W_count t.pieces.length (fun p s => ∃ tm hh, s = ⟨tm, hh, []⟩ ∧ hC.Sub hh ∧ (Opd.t 5).ev tm = .ptr b7 0 ∧ (Opd.t 6).ev tm = .ptr h2.next 0 ∧ (Opd.t 7).ev tm = .ptr b9 0 ∧ (Opd.t 8).ev tm = u8 ∧ (Opd.t 10).ev tm = y10 ∧ (Opd.t 14).ev tm = y14 ∧ (Opd.t 93).ev tm = Z ∧ (Opd.t 94).ev tm = .int .i64 (t.pieces.length : Int) ∧ (Opd.t 95).ev tm = .int .i64 (p : Int))
    ?_ ?_ (i := 0) (Nat.zero_le _) ⟨_, _, rfl, H.Sub.refl s2C.wf, (by simp [ev_c, ev_put] <;> rfl), (by simp [ev_c, ev_put] <;> rfl), (by simp [ev_c, ev_put] <;> rfl), (by simp [ev_c, ev_put] <;> rfl), (by simp [ev_c, ev_put] <;> rfl), (by simp [ev_c, ev_put] <;> rfl), (by simp [ev_c, ev_put] <;> rfl), (by simp [ev_c, ev_put] <;> rfl), (by simp [ev_c, ev_put] <;> rfl)⟩) fun x1 s hx1 => ?_
  · rintro p s hp ⟨tm, hh, rfl, sh, t5, t6, t7, t8, t10, t14, t93, t94, t95⟩
    have hp' : (p : Int) < (t.pieces.length : Int) := by omega
    obtain ⟨bP, oP, cP, csP, eP, hcP, hqP, hgP, _, _⟩ := (aPC.mono sh).at hp
    simp only [encD] at hgP
    have sB := (H.Sub.refl sh.wf).add (.cells .rw [.int .i64 t.pieces[p].x, .int .i64 t.pieces[p].y, .int .i64 t.pieces[p].z])
    have g17 : (hh.add (.cells .rw [.int .i64 t.pieces[p].x, .int .i64 t.pieces[p].y, .int .i64 t.pieces[p].z])).cells hh.next = some [.int .i64 t.pieces[p].x, .int .i64 t.pieces[p].y, .int .i64 t.pieces[p].z] := cells_add_new rfl
    have sCB := sh.trans sB
    have gpi := g.piece _ (List.getElem_mem hp)
    have bb : ∀ b : Bool, (!(b == b)) = false := fun b => by cases b <;> rfl
    simp -implicitDefEqProofs (maxSteps := 999999) (disch := first | with_reducible rfl | omega | (simp only [nA, nS, nD] <;> omega) | fail) only [go_sem, t5, t6, t7, t8, t10, t14, t93, t94, t95, hp', hqP (nat_cst p), hcP, hgP]
    generalize hh.add (.cells .rw [.int .i64 t.pieces[p].x, .int .i64 t.pieces[p].y, .int .i64 t.pieces[p].z]) = hE at sB g17 sCB ⊢
    refine hasInt_ev sB.wf (hu8C.mono sCB) (p : Int) _ fun hF sF => ?_
    have ean : ((scrapK t a t.pieces.length).any fun r => decide ((p : Int) = r)) = alike t a t.pieces[p] := by
      rw [any_scrap (Nat.le_refl _), decide_eq_true hp, Bool.true_and, List.getElem?_eq_getElem hp]
    rw [ean]
    have sCF := sCB.trans sF
    have htl := tellers_ev (h := hF) sF.wf (iC.mono sCF) g ha20 gpi
    simp only [encD] at htl
    have gdF := sCF.cells g7C
    have g9F := sCF.cells g9C
    have g17F := sF.cells g17
    simp -implicitDefEqProofs (maxSteps := 999999) (disch := first | with_reducible rfl | omega | (simp only [nA, nS, nD] <;> omega) | fail) only [go_sem, t5, t6, t7, t8, t10, t14, t93, t94, t95, gdF, g9F, g17F, g17, sCB.cells g7C, sCB.cells g9C]
    refine htl _ fun yt hG oy => ?_
    have lt6 := tellK_len t a t.pieces[p] t.eyes.length
    have lyt := (oy.sl (by simp only [List.length_map]; omega)).lenE
    have edk : decide (((tellK t a t.pieces[p] t.eyes.length).length : Int) = 0) = alike t a t.pieces[p] := by
      rw [← tellK_alike g, decide_eq_decide]; omega
    have sCG := sCF.trans oy.1
    have gdG := sCG.cells g7C
    simp -implicitDefEqProofs (maxSteps := 999999) (disch := first | with_reducible rfl | omega | (simp only [nA, nS, nD] <;> omega) | fail) only [go_sem, t5, t6, t7, t8, t10, t14, t93, t94, t95, lyt, edk, bb, gdF, g9F, g17F, g17, sCB.cells g7C, sCB.cells g9C, gdG, lP]
    refine W_count t.pieces.length (fun r s => ∃ tm hq, s = ⟨tm, hq, []⟩ ∧ hC.Sub hq ∧ (Opd.t 5).ev tm = .ptr b7 0 ∧ (Opd.t 6).ev tm = .ptr h2.next 0 ∧ (Opd.t 7).ev tm = .ptr b9 0 ∧ (Opd.t 8).ev tm = u8 ∧ (Opd.t 10).ev tm = y10 ∧ (Opd.t 14).ev tm = y14 ∧ (Opd.t 16).ev tm = .int .i64 (p : Int) ∧ (Opd.t 93).ev tm = Z ∧ (Opd.t 94).ev tm = .int .i64 (t.pieces.length : Int) ∧ (Opd.t 95).ev tm = .int .i64 (p : Int) ∧ (Opd.t 112).ev tm = .int .i64 (t.pieces.length : Int) ∧ (Opd.t 113).ev tm = .int .i64 (r : Int))
      ?_ ?_ (i := 0) (Nat.zero_le _) ⟨_, _, rfl, sCG, (by simp [ev_c, ev_put, t5] <;> rfl), (by simp [ev_c, ev_put, t6] <;> rfl), (by simp [ev_c, ev_put, t7] <;> rfl), (by simp [ev_c, ev_put, t8] <;> rfl), (by simp [ev_c, ev_put, t10] <;> rfl), (by simp [ev_c, ev_put, t14] <;> rfl), (by simp [ev_c, ev_put] <;> rfl), (by simp [ev_c, ev_put, t93] <;> rfl), (by simp [ev_c, ev_put, t94] <;> rfl), (by simp [ev_c, ev_put, t95] <;> rfl), (by simp [ev_c, ev_put] <;> rfl), (by simp [ev_c, ev_put] <;> rfl)⟩
    · clear t5 t6 t7 t8 t10 t14 t93 t94 t95
      rintro r s hr ⟨tm, hq, rfl, sq, t5, t6, t7, t8, t10, t14, t16, t93, t94, t95, t112, t113⟩
      have hr' : (r : Int) < (t.pieces.length : Int) := by omega
      have ip : isPc t (p : Int) = true := by simp only [isPc, decide_eq_true_eq]; omega
      have ir : isPc t (r : Int) = true := by simp only [isPc, decide_eq_true_eq]; omega
      have m1 : matchE t (p : Int) (r : Int) = 0 := by unfold matchE; rw [if_neg (by simp [c0]), if_neg (by simp [ip, ir])]
      have r1 : matchR t (p : Int) (r : Int) = matchB t p r := by unfold matchR; rw [m1]; simp
      simp -implicitDefEqProofs (maxSteps := 999999) (disch := first | with_reducible rfl | omega | (simp only [nA, nS, nD] <;> omega) | fail) only [go_sem, t5, t6, t7, t8, t10, t14, t16, t93, t94, t95, t112, t113, hr', sq.cells g7C]
      refine Match_ev sq.wf (iC.mono sq) (p : Int) (r : Int) _ fun hH sH => ?_
      rw [m1, r1]
      have sqH := sq.trans sH
      simp -implicitDefEqProofs (maxSteps := 999999) (disch := first | with_reducible rfl | omega | (simp only [nA, nS, nD] <;> omega) | fail) only [go_sem, t5, t6, t7, t8, t10, t14, t16, t93, t94, t95, t112, t113, nn, sqH.cells g7C]
      refine lmatch_ev sqH.wf (iC.mono sqH) g hp hr _ fun hI sI => ?_
      have emm : MM t p r = matchB t p r := MM_comm g p r
      rw [emm]
      simp -implicitDefEqProofs (maxSteps := 999999) (disch := first | with_reducible rfl | omega | (simp only [nA, nS, nD] <;> omega) | fail) only [go_sem, t5, t6, t7, t8, t10, t14, t16, t93, t94, t95, t112, t113, bb, wr_succ]
      exact ⟨_, _, rfl, sqH.trans sI, (by simp [ev_c, ev_put, t5] <;> rfl), (by simp [ev_c, ev_put, t6] <;> rfl), (by simp [ev_c, ev_put, t7] <;> rfl), (by simp [ev_c, ev_put, t8] <;> rfl), (by simp [ev_c, ev_put, t10] <;> rfl), (by simp [ev_c, ev_put, t14] <;> rfl), (by simp [ev_c, ev_put, t16] <;> rfl), (by simp [ev_c, ev_put, t93] <;> rfl), (by simp [ev_c, ev_put, t94] <;> rfl), (by simp [ev_c, ev_put, t95] <;> rfl), (by simp [ev_c, ev_put, t112] <;> rfl), (by simp [ev_c, ev_put] <;> rfl)⟩
    · clear t5 t6 t7 t8 t10 t14 t93 t94 t95
      rintro s ⟨tm, hq, rfl, sq, t5, t6, t7, t8, t10, t14, t16, t93, t94, t95, t112, t113⟩
      simp -implicitDefEqProofs (maxSteps := 999999) (disch := first | with_reducible rfl | omega | (simp only [nA, nS, nD] <;> omega) | fail) only [go_sem, t5, t6, t7, t8, t10, t14, t16, t93, t94, t95, t112, t113, Int.lt_irrefl, wr_succ]
      exact ⟨_, _, rfl, sq, (by simp [ev_c, ev_put, t5] <;> rfl), (by simp [ev_c, ev_put, t6] <;> rfl), (by simp [ev_c, ev_put, t7] <;> rfl), (by simp [ev_c, ev_put, t8] <;> rfl), (by simp [ev_c, ev_put, t10] <;> rfl), (by simp [ev_c, ev_put, t14] <;> rfl), (by simp [ev_c, ev_put, t93] <;> rfl), (by simp [ev_c, ev_put, t94] <;> rfl), (by simp [ev_c, ev_put] <;> rfl)⟩
  · rintro s ⟨tm, hh, rfl, sh, t5, t6, t7, t8, t10, t14, t93, t94, t95⟩
    simp -implicitDefEqProofs (maxSteps := 999999) (disch := first | with_reducible rfl | omega | (simp only [nA, nS, nD] <;> omega) | fail) only [go_sem, t5, t6, t7, t8, t10, t14, t93, t94, t95, Int.lt_irrefl]
    exact ⟨_, _, rfl, sh, (by simp [ev_c, ev_put, t5] <;> rfl), (by simp [ev_c, ev_put, t6] <;> rfl), (by simp [ev_c, ev_put, t10] <;> rfl), (by simp [ev_c, ev_put, t14] <;> rfl)⟩
  obtain ⟨rfl, tm, hD, rfl, sD, t5, t6, t10, t14⟩ := hx1
  have cy14D := cy14C.mono sD
  simp -implicitDefEqProofs (maxSteps := 999999) (disch := first | with_reducible rfl | omega | (simp only [nA, nS, nD] <;> omega) | fail) only [go_sem, t5, t6, t10, t14, l14]
  refine W.mono (Q := fun x1 s => x1 = .ext 4 ∧ ∃ tm hh, s = ⟨tm, hh, []⟩ ∧ hC.Sub hh ∧ (Opd.t 5).ev tm = .ptr b7 0 ∧ (Opd.t 6).ev tm = .ptr h2.next 0 ∧ (Opd.t 10).ev tm = y10)
   (W_count cs'.length (fun i s => ∃ tm hh, s = ⟨tm, hh, []⟩ ∧ hC.Sub hh ∧ (Opd.t 5).ev tm = .ptr b7 0 ∧ (Opd.t 6).ev tm = .ptr h2.next 0 ∧ (Opd.t 10).ev tm = y10 ∧ (Opd.t 14).ev tm = y14 ∧ (Opd.t 135).ev tm = y14 ∧ (Opd.t 136).ev tm = .int .i64 (cs'.length : Int) ∧ (Opd.t 137).ev tm = .int .i64 (i : Int))
    ?_ ?_ (i := 0) (Nat.zero_le _) ⟨_, _, rfl, sD, (by simp [ev_c, ev_put, t5] <;> rfl), (by simp [ev_c, ev_put, t6] <;> rfl), (by simp [ev_c, ev_put, t10] <;> rfl), (by simp [ev_c, ev_put, t14] <;> rfl), (by simp [ev_c, ev_put] <;> rfl), (by simp [ev_c, ev_put] <;> rfl), (by simp [ev_c, ev_put] <;> rfl)⟩) fun x1 s hx1 => ?_
  · clear t5 t6 t10 t14
    rintro i s hi ⟨tm, hh, rfl, sh, t5, t6, t10, t14, t135, t136, t137⟩
    have hi' : (i : Int) < (cs'.length : Int) := by omega
    have cyh := cy14C.mono sh
    obtain ⟨b1, o1, cs1, f1, f2, f3⟩ := SlAt.elemF cyh.sl hi
    have hr := inc14.mem _ (List.getElem_mem hi)
    have sB := (H.Sub.refl sh.wf).add (.cells .rw [.int .i64 cs'[i]])
    have g22 : (hh.add (.cells .rw [.int .i64 cs'[i]])).cells hh.next = some [.int .i64 cs'[i]] := cells_add_new rfl
    have sCB := sh.trans sB
    have gdB := sCB.cells g7C
    have q1 : ¬ cs'[i] < 0 := by omega
    have q2 : ¬ (t.pieces.length : Int) ≤ cs'[i] := by omega
    have h20 := cy14.2
    obtain ⟨ys, hys, cys, _⟩ := ((cyh.mono sB).1).to (k := i) (by omega) (by simp only [List.length_map]; omega) (by simp only [List.length_map]; omega)
    rw [← List.map_take] at cys
    have eany : ((cs'.take i).any fun r => mT t cs'[i] r) = false := by
      rw [List.any_eq_false]
      intro r hr2
      obtain ⟨j, hj, rfl⟩ := List.getElem_of_mem hr2
      rw [List.length_take] at hj
      rw [List.getElem_take]
      have hlt := List.pairwise_iff_getElem.1 (Inc.pw inc14) j i (by omega) hi (by omega)
      rw [hno14 _ (List.getElem_mem hi) _ (List.getElem_mem (show j < cs'.length by omega)) (by omega)]
      simp
    have f2B := sB.cells f2
    simp -implicitDefEqProofs (maxSteps := 999999) (disch := first | with_reducible rfl | omega | (simp only [nA, nS, nD] <;> omega) | fail) only [go_sem, t5, t6, t10, t14, t135, t136, t137, hi', f1, f2, f3]
    generalize hh.add (.cells .rw [.int .i64 cs'[i]]) = hE at sB g22 sCB gdB cys hys f2B ⊢
    have hlin : ∀ r ∈ cs'.take i, 0 ≤ r ∧ r < (t.pieces.length : Int) := fun r hr2 => inc14.mem _ (List.mem_of_mem_take hr2)
    cases i with
    | zero =>
      have z1 : ¬ (0 : Int) < ((0 : Nat) : Int) := by omega
      simp -implicitDefEqProofs (maxSteps := 999999) (disch := first | with_reducible rfl | omega | (simp only [nA, nS, nD] <;> omega) | fail) only [go_sem, t5, t6, t10, t14, t135, t136, t137, g22, gdB, lP, q1, q2, z1, evQ_slc, q_slc_to, hys]
      refine (containsFuncInt_ev (p := fun r => mT t cs'[0] r) sB.wf (cys.sl (by simp only [List.length_map, List.length_take]; omega)) fun r hr2 => found1_ev g gdB (iC.mono sCB) g22 hr (hlin r hr2)).mono fun u hF hu => ?_
      obtain ⟨rfl, sF⟩ := hu
      rw [eany]
      simp -implicitDefEqProofs (maxSteps := 999999) (disch := first | with_reducible rfl | omega | (simp only [nA, nS, nD] <;> omega) | fail) only [go_sem, t5, t6, t10, t14, t135, t136, t137, g22, gdB, lP, evQ_slc, q_slc_to, hys, wr_succ]
      exact ⟨_, _, rfl, sCB.trans sF, (by simp [ev_c, ev_put, t5] <;> rfl), (by simp [ev_c, ev_put, t6] <;> rfl), (by simp [ev_c, ev_put, t10] <;> rfl), (by simp [ev_c, ev_put, t14] <;> rfl), (by simp [ev_c, ev_put, t135] <;> rfl), (by simp [ev_c, ev_put, t136] <;> rfl), (by simp [ev_c, ev_put] <;> rfl)⟩
    | succ j =>
      have z1 : (0 : Int) < ((j + 1 : Nat) : Int) := by omega
      have z4 : ((j + 1 : Nat) : Int) - 1 = (j : Int) := by omega
      obtain ⟨b2, o2, cs2, u1, u2, u3⟩ := SlAt.elemF (cyh.mono sB).sl (show j < cs'.length by omega)
      have hlt := List.pairwise_iff_getElem.1 (Inc.pw inc14) j (j + 1) (by omega) hi (by omega)
      have hle : ¬ cs'[j + 1] ≤ cs'[j] := by omega
      simp -implicitDefEqProofs (maxSteps := 999999) (disch := first | with_reducible rfl | omega | (simp only [nA, nS, nD] <;> omega) | fail) only [go_sem, t5, t6, t10, t14, t135, t136, t137, g22, gdB, lP, q1, q2, z1, z4, wr_in, u1, u2, u3, hle, evQ_slc, q_slc_to, hys]
      refine (containsFuncInt_ev (p := fun r => mT t cs'[j + 1] r) sB.wf (cys.sl (by simp only [List.length_map, List.length_take]; omega)) fun r hr2 => found1_ev g gdB (iC.mono sCB) g22 hr (hlin r hr2)).mono fun u hF hu => ?_
      obtain ⟨rfl, sF⟩ := hu
      rw [eany]
      simp -implicitDefEqProofs (maxSteps := 999999) (disch := first | with_reducible rfl | omega | (simp only [nA, nS, nD] <;> omega) | fail) only [go_sem, t5, t6, t10, t14, t135, t136, t137, g22, gdB, lP, u2, u3, evQ_slc, q_slc_to, hys, wr_succ]
      exact ⟨_, _, rfl, sCB.trans sF, (by simp [ev_c, ev_put, t5] <;> rfl), (by simp [ev_c, ev_put, t6] <;> rfl), (by simp [ev_c, ev_put, t10] <;> rfl), (by simp [ev_c, ev_put, t14] <;> rfl), (by simp [ev_c, ev_put, t135] <;> rfl), (by simp [ev_c, ev_put, t136] <;> rfl), (by simp [ev_c, ev_put] <;> rfl)⟩
  · clear t5 t6 t10 t14
    rintro s ⟨tm, hh, rfl, sh, t5, t6, t10, t14, t135, t136, t137⟩
    simp -implicitDefEqProofs (maxSteps := 999999) (disch := first | with_reducible rfl | omega | (simp only [nA, nS, nD] <;> omega) | fail) only [go_sem, t5, t6, t10, t14, t135, t136, t137, Int.lt_irrefl]
    exact ⟨_, _, rfl, sh, (by simp [ev_c, ev_put, t5] <;> rfl), (by simp [ev_c, ev_put, t6] <;> rfl), (by simp [ev_c, ev_put, t10] <;> rfl)⟩
  clear t5 t6 t10 t14 sD cy14D
  obtain ⟨rfl, tm, hD, rfl, sD, t5, t6, t10⟩ := hx1
  have lp2 : h2.next < h4.next := by have := s3.next; have := k4.1; omega
  have nb10 : ∀ b, blkOf y10 b → b ≠ h2.next := fun b hb e => by
    have h1 := ny10 b hb
    have h3 := sA.next
    have h4 := s6.next
    omega
  simp -implicitDefEqProofs (maxSteps := 999999) (disch := first | with_reducible rfl | omega | (simp only [nA, nS, nD] <;> omega) | fail) only [go_sem, t5, t6, t10]
  refine W_count 8 (fun i s => ∃ tm hh T', s = ⟨tm, hh, []⟩ ∧ h2.Sub hh ∧ SpAt hh h2.next y T' ∧ 0 ≤ T' ∧ T' ≤ 10 + 10 * (i : Int) ∧ SlAt hh y10 1 (cf.map encI) ∧ (Opd.t 5).ev tm = .ptr b7 0 ∧ (Opd.t 6).ev tm = .ptr h2.next 0 ∧ (Opd.t 10).ev tm = y10 ∧ (Opd.t 172).ev tm = .int .i64 (i : Int))
    ?_ ?_ (i := 0) (Nat.zero_le _) ⟨_, _, _, rfl, s2C.trans sD, spC.mono sD, by omega, by omega, hy10C.mono sD, (by simp [ev_c, ev_put, t5] <;> rfl), (by simp [ev_c, ev_put, t6] <;> rfl), (by simp [ev_c, ev_put, t10] <;> rfl), (by simp [ev_c, ev_put] <;> rfl)⟩
  · clear t5 t6 t10
    rintro i s hi ⟨tm, hh, T', rfl, sh, sp, T0, T1, a10, t5, t6, t10, t172⟩
    have hi' : (i : Int) < 8 := by omega
    simp -implicitDefEqProofs (maxSteps := 999999) (disch := first | with_reducible rfl | omega | (simp only [nA, nS, nD] <;> omega) | fail) only [go_sem, t5, t6, t10, t172, hi', sh.cells g7, lE]
    refine some_ev sh s2.wf (hy.mono sN2) (Nat.le_refl _) sp (by omega) (by omega) _ fun l yl hE inc sE spE kE al nyl => ?_
    have hll := inc.len (by omega)
    obtain ⟨el1, el2⟩ := inc_eyes g inc
    have a10E : SlAt hE y10 1 (cf.map encI) := SlAt_keep2 a10 kE fun _ => nb10
    have ll := al.lenE
    have l10 := a10.lenE
    simp -implicitDefEqProofs (maxSteps := 999999) (disch := first | with_reducible rfl | omega | (simp only [nA, nS, nD] <;> omega) | fail) only [go_sem, t5, t6, t10, t172, sE.cells g7]
    refine Enough_ev sE.wf (i2.mono sE) al (by omega) _ fun hF sF => ?_
    rw [el1, el2]
    have s2F := sE.trans sF
    simp -implicitDefEqProofs (maxSteps := 999999) (disch := first | with_reducible rfl | omega | (simp only [nA, nS, nD] <;> omega) | fail) only [go_sem, t5, t6, t10, t172, nn, s2F.cells g7]
    refine lenough_ev s2F.wf (i2.mono s2F) g (cZ.mono s2F) (al.mono sF) _ fun hG sG => ?_
    have s2G := s2F.trans sG
    have spG := (spE.mono sF).mono sG
    have e1 : T' + (t.eyes.length : Int) ≤ 10 + 10 * ((i + 1 : Nat) : Int) := by omega
    have a10G := (a10E.mono sF).mono sG
    have bb : ∀ b : Bool, (!(b == b)) = false := fun b => by cases b <;> rfl
    cases hen : enoughB t l with
    | false =>
      simp -implicitDefEqProofs (maxSteps := 999999) (disch := first | with_reducible rfl | omega | (simp only [nA, nS, nD] <;> omega) | fail) only [go_sem, t5, t6, t10, t172, bb, wr_succ]
      exact ⟨_, _, _, rfl, s2G, spG, by omega, e1, a10G, (by simp [ev_c, ev_put, t5] <;> rfl), (by simp [ev_c, ev_put, t6] <;> rfl), (by simp [ev_c, ev_put, t10] <;> rfl), (by simp [ev_c, ev_put] <;> rfl)⟩
    | true =>
      obtain ⟨fm1, fm2⟩ := few_min hcf inc hen
      have nl1 : ¬ (l.length : Int) < (cf.length : Int) := by omega
      by_cases hle : l.length = cf.length
      · have de : decide ((l.length : Int) = (cf.length : Int)) = true := decide_eq_true (by omega)
        have hcmp := fun Q => Compare_ev ((al.mono sF).mono sG) a10G Q
        have nc := fm2 hle
        simp -implicitDefEqProofs (maxSteps := 999999) (disch := first | with_reducible rfl | omega | (simp only [nA, nS, nD] <;> omega) | fail) only [go_sem, t5, t6, t10, t172, bb, ll, l10, nl1, de, hcmp, nc, wr_succ]
        exact ⟨_, _, _, rfl, s2G, spG, by omega, e1, a10G, (by simp [ev_c, ev_put, t5] <;> rfl), (by simp [ev_c, ev_put, t6] <;> rfl), (by simp [ev_c, ev_put, t10] <;> rfl), (by simp [ev_c, ev_put] <;> rfl)⟩
      · have de : decide ((l.length : Int) = (cf.length : Int)) = false := decide_eq_false (by omega)
        simp -implicitDefEqProofs (maxSteps := 999999) (disch := first | with_reducible rfl | omega | (simp only [nA, nS, nD] <;> omega) | fail) only [go_sem, t5, t6, t10, t172, bb, ll, l10, nl1, de, wr_succ]
        exact ⟨_, _, _, rfl, s2G, spG, by omega, e1, a10G, (by simp [ev_c, ev_put, t5] <;> rfl), (by simp [ev_c, ev_put, t6] <;> rfl), (by simp [ev_c, ev_put, t10] <;> rfl), (by simp [ev_c, ev_put] <;> rfl)⟩
  · clear t5 t6 t10
    rintro s ⟨tm, hh, T', rfl, sh, sp, T0, T1, a10, t5, t6, t10, t172⟩
    have hnl : ¬ ((8 : Nat) : Int) < 8 := by omega
    simp -implicitDefEqProofs (maxSteps := 999999) (disch := first | with_reducible rfl | omega | (simp only [nA, nS, nD] <;> omega) | fail) only [go_sem, t5, t6, t10, t172, hnl, awake_eq]
end Go.Ab.Try
