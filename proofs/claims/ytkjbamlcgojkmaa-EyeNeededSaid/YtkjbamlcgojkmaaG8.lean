/- EyeNeeded. Some eyes, as the law tries them; which lists rise; slices.Compare. slices.Compact, rising, Enough. Witness, Needed. slices.Delete of an eye; tables without an eye (plain). Eyes that are needed. Plain. -/
import Derived.Test.YtkjbamlcgojkmaaG6
import Derived.Test.YtkjbamlcgojkmaaG5
import Derived.Test.YtkjbamlcgojkmaaG7
set_option linter.unusedSimpArgs false
set_option linter.unusedVariables false
namespace Go.Ab.Try
open Go.Ab.Silk (Inc lexlt)
theorem some_ev {h0 h : H} {p : Nat} {x : V} {bs : List Int} {T : Int} (hs : h0.Sub h) (hw0 : h0.wf) (hx : SlAt h0 x 1 (bs.map encU8)) (hp0 : h0.next ≤ p) (hp : SpAt h p x T) (hT : 0 ≤ T ∧ T ≤ 100000000) {n : Nat} (hn : n ≤ 100) (Q : V → H → Prop)
    (q : ∀ l y h', Inc n 0 l → h0.Sub h' → SpAt h' p x (T + n) → Keeps (fun b => b = p) h h' → SlAt h' y 1 (l.map encI) → (∀ b, blkOf y b → h.next ≤ b) → Q y h') : Ev fnG fastA (.fn 66 [] []) [.ptr p 0, .int .i64 (n : Int)] h Q := by
  have hw := hs.wf
  have hlp : p < h.next := by obtain ⟨st, g⟩ := hp; exact hw _ _ g
  refine Ev_body (fd := c66) rfl rfl rfl ?_
  simp -implicitDefEqProofs (maxSteps := 999999) (disch := first | with_reducible rfl | omega | (simp only [nA, nS, nD] <;> omega) | fail) only [c66, go_sem]
  refine W_count n (fun i s => ∃ tm h' y l, s = ⟨tm, h', []⟩ ∧ Inc i 0 l ∧ h0.Sub h' ∧ SpAt h' p x (T + i) ∧ Keeps (fun c => c = p ∨ h.next ≤ c) h h' ∧ OwnSl h0 h' y 1 (l.map encI) ∧ (∀ b, blkOf y b → h.next ≤ b) ∧ (Opd.t 0).ev tm = .ptr p 0 ∧ (Opd.t 5).ev tm = y ∧ (Opd.t 7).ev tm = .int .i64 (n : Int) ∧ (Opd.t 8).ev tm = .int .i64 (i : Int))
    ?_ ?_ (i := 0) (Nat.zero_le _) ⟨_, _, .nils, [], rfl, trivial, hs, by simpa using hp, Keeps.refl _ _, OwnSl.nil hs 1, fun b hb => absurd hb (nblk b), (by simp [ev_c, ev_put] <;> rfl), (by simp [ev_c, ev_put] <;> rfl), (by simp [ev_c, ev_put] <;> rfl), (by simp [ev_c, ev_put] <;> rfl)⟩
  · rintro i s hi ⟨tm, h', y, l, rfl, inc, s', sp, kk, oy, ny, t0, t5, t7, t8⟩
    have hi' : (i : Int) < (n : Int) := by omega
    have hl := inc.len (by omega)
    simp -implicitDefEqProofs (maxSteps := 999999) (disch := first | with_reducible rfl | omega | (simp only [nA, nS, nD] <;> omega) | fail) only [go_sem, t0, t5, t7, t8, hi']
    refine Once_ev s' hw0 hx hp0 sp (by omega) (by omega) _ fun tt h1 s1 p1 k1 n1 => ?_
    have e1 : T + (i : Int) + 1 = T + ((i + 1 : Nat) : Int) := by omega
    rw [e1] at p1
    have oy1 := oy.keep k1 s1 fun b hb e => by subst e; exact oy.ne (spGet sp) hb
    have kk1 : Keeps (fun c => c = p ∨ h.next ≤ c) h h1 := (kk.trans k1).mono fun c h => by rcases h with h | h; exact h; exact .inl h
    have up : ∀ l, Inc i 0 l → Inc ((i + 1 : Nat) : Int) 0 l := fun l inc => Inc.of (Inc.pw inc) fun x hx => by have := inc.mem x hx; omega
    cases tt with
    | false =>
      simp -implicitDefEqProofs (maxSteps := 999999) (disch := first | with_reducible rfl | omega | (simp only [nA, nS, nD] <;> omega) | fail) only [go_sem, t0, t5, t7, t8, wr_succ]
      exact ⟨_, _, y, l, rfl, up l inc, s1, p1, kk1, oy1, ny, (by simp [ev_c, ev_put, t0] <;> rfl), (by simp [ev_c, ev_put, t5] <;> rfl), (by simp [ev_c, ev_put, t7] <;> rfl), (by simp [ev_c, ev_put] <;> rfl)⟩
    | true =>
      have sC := (H.Sub.refl s1.wf).add (.cells .rw [.int .i64 (i : Int)])
      have lk := kk1.1
      simp -implicitDefEqProofs (maxSteps := 999999) (disch := first | with_reducible rfl | omega | (simp only [nA, nS, nD] <;> omega) | fail) only [go_sem, t0, t5, t7, t8]
      refine (oy1.mono sC).app1 (by_ := 8) (r := encI (i : Int)) hw0 rfl (by omega) own1_lit rfl (by simp only [List.length_map]; omega) (by simp only [List.length_map]; omega) fun h2 o2 k2 n2 => ?_
      rw [H.next_add, List.length_map] at o2
      have e2 : l.map encI ++ [encI (i : Int)] = (l ++ [(i : Int)]).map encI := by simp
      rw [e2] at o2
      have k02 : Keeps (fun c => c = p ∨ h.next ≤ c) h h2 := ((kk1.trans (Keeps.of sC fun _ => False)).trans k2).mono fun c h => by
        rcases h with (h | h) | h
        · exact h
        · exact h.elim
        · exact .inr (ny c h)
      have p2 := (p1.mono sC).keep k2 fun hb => by have := ny _ hb; omega
      simp -implicitDefEqProofs (maxSteps := 999999) (disch := first | with_reducible rfl | omega | (simp only [nA, nS, nD] <;> omega) | fail) only [go_sem, t0, t5, t7, t8, wr_succ]
      exact ⟨_, _, _, l ++ [(i : Int)], rfl, Inc.of (by
        rw [List.pairwise_append]
        exact ⟨Inc.pw inc, by simp, fun a ha b hb => by rw [List.mem_singleton] at hb; subst hb; exact (inc.mem a ha).2⟩) (fun a ha => by
        rcases List.mem_append.1 ha with h | h
        · have := inc.mem a h; omega
        · rw [List.mem_singleton] at h; omega), o2.1, p2, k02, o2, fun b hb => by have := fresh hb; omega, (by simp [ev_c, ev_put, t0] <;> rfl), (by simp [ev_c, ev_put] <;> rfl), (by simp [ev_c, ev_put, t7] <;> rfl), (by simp [ev_c, ev_put] <;> rfl)⟩
  · rintro s ⟨tm, h', y, l, rfl, inc, s', sp, kk, oy, ny, t0, t5, t7, t8⟩
    have hl := inc.len (by omega)
    simp -implicitDefEqProofs (maxSteps := 999999) (disch := first | with_reducible rfl | omega | (simp only [nA, nS, nD] <;> omega) | fail) only [go_sem, t0, t5, t7, t8, Int.lt_irrefl]
    exact q l y h' inc s' sp (kk.low hw (Nat.le_refl _)) (oy.sl (by simp only [List.length_map]; omega)) ny
theorem isNaN_eq (a : Int) (h : H) (R : V → H → Prop) : Ev fnG fastA (.fn 153 [] []) [.int .i64 a] h R = R (.bool false) h := by
  refine Ev.det (Ev_body (fd := c153) rfl rfl rfl ?_) R
  simp -implicitDefEqProofs (maxSteps := 999999) (disch := first | with_reducible rfl | omega | (simp only [nA, nS, nD] <;> omega) | fail) only [c153, go_sem, ne_eq, not_true_eq_false, not_false_eq_true]
theorem less_eq (a b : Int) (h : H) (Q : V → H → Prop) : Ev fnG fastA (.fn 158 [] []) [.int .i64 a, .int .i64 b] h Q = Q (.bool (decide (a < b))) h := by
  refine Ev.det (Ev_body (fd := c158) rfl rfl rfl ?_) Q
  simp -implicitDefEqProofs (maxSteps := 999999) (disch := first | with_reducible rfl | omega | (simp only [nA, nS, nD] <;> omega) | fail) only [c158, go_sem, isNaN_eq]
theorem adj_pw {R : Int → Int → Prop} (tr : ∀ a b c, R a b → R b c → R a c) : ∀ {l : List Int}, (∀ i (h : i + 1 < l.length), R l[i] l[i + 1]) → l.Pairwise R
  | [], _ => List.Pairwise.nil
  | [a], _ => by simp
  | a :: b :: l, h => by
    have ih := adj_pw tr (l := b :: l) fun i hi => h (i + 1) (by simpa using hi)
    rw [List.pairwise_cons] at ih ⊢
    have hab : R a b := h 0 (by simp)
    exact ⟨fun x hx => by
      rcases List.mem_cons.1 hx with rfl | hx
      · exact hab
      · exact tr _ _ _ hab (ih.1 x hx), List.pairwise_cons.2 ih⟩
theorem isSorted_ev {h : H} {x : V} {l : List Int} (hx : SlAt h x 1 (l.map encI)) (Q : V → H → Prop) : Ev fnG fastA (.fn 151 [] []) [x] h Q = Q (.bool (decide (l.Pairwise (· ≤ ·)))) h := by
  have hlx := hx.lenE
  have hbd := hx.boundE
  refine Ev.det (Ev_body (fd := c151) rfl rfl rfl ?_) Q
  have ew0 : wr .i64 ((l.length : Int) - 1) = (l.length : Int) - 1 := wr_in (by omega) (by omega)
  simp -implicitDefEqProofs (maxSteps := 999999) (disch := first | with_reducible rfl | omega | (simp only [nA, nS, nD] <;> omega) | fail) only [c151, go_sem, hlx]
  refine W_loop (fun k s => ∃ (tm : Go.Ab.T V) (i : Int), s = ⟨tm, h, []⟩ ∧ k = (i + 1).toNat ∧ -1 ≤ i ∧ i < l.length ∧ (i = -1 → l.length = 0) ∧ (∀ j (hj : j + 1 < l.length), i < ((j + 1 : Nat) : Int) → l[j] ≤ l[j + 1]) ∧ (Opd.t 0).ev tm = x ∧ (Opd.t 3).ev tm = .int .i64 i) ?_ l.length _ ⟨_, (l.length : Int) - 1, rfl, by omega, by omega, by omega, by omega, fun j hj h0 => by omega, (by simp [ev_c, ev_put] <;> rfl), (by simp [ev_c, ev_put, ew0] <;> rfl)⟩
  rintro k s ⟨tm, i, rfl, hk, i0, i1, i2, hord, t0, t3⟩
  by_cases hi : 0 < i
  · obtain ⟨n, rfl⟩ : ∃ n : Nat, i = ((n + 1 : Nat) : Int) := ⟨(i - 1).toNat, by omega⟩
    have hn1 : n + 1 < l.length := by omega
    have hn0 : n < l.length := by omega
    obtain ⟨b1, o1, c1, cs1, rfl, hc1, hq1, hg1, hn1', hn01⟩ := hx.at hn1
    obtain ⟨b2, o2, c2, cs2, e2, hc2, hq2, hg2, hn2', hn02⟩ := hx.at hn0
    have ew : wr .i64 (((n + 1 : Nat) : Int) - 1) = (n : Int) := by rw [wr_in (by omega) (by omega)]; omega
    by_cases hlt : l[n + 1] < l[n]
    · have hf : decide (l.Pairwise (· ≤ ·)) = false := decide_eq_false fun hp => by
        have := List.pairwise_iff_getElem.1 hp n (n + 1) hn0 hn1 (by omega); omega
      have dl : decide (l[n + 1] < l[n]) = true := decide_eq_true hlt
      simp -implicitDefEqProofs (maxSteps := 999999) (disch := first | with_reducible rfl | omega | (simp only [nA, nS, nD] <;> omega) | fail) only [go_sem, t0, t3, hi, hq1 (nat_cst (n + 1)), hc1, hn01 (by omega), ew, hq2 (nat_cst n), hc2, hn02 (by omega), encI, less_eq, dl, hf]
    · have dl : decide (l[n + 1] < l[n]) = false := decide_eq_false hlt
      simp -implicitDefEqProofs (maxSteps := 999999) (disch := first | with_reducible rfl | omega | (simp only [nA, nS, nD] <;> omega) | fail) only [go_sem, t0, t3, hi, hq1 (nat_cst (n + 1)), hc1, hn01 (by omega), ew, hq2 (nat_cst n), hc2, hn02 (by omega), encI, less_eq, dl]
      exact ⟨n + 1, by omega, _, (n : Int), rfl, by omega, by omega, by omega, by omega, fun j hj h0 => by
        by_cases e : j = n
        · subst e; omega
        · exact hord j hj (by omega), (by simp [ev_c, ev_put, t0] <;> rfl), (by simp [ev_c, ev_put, ew] <;> rfl)⟩
  · have ht : decide (l.Pairwise (· ≤ ·)) = true := decide_eq_true (adj_pw (R := fun a b => a ≤ b) (fun a b c h1 h2 => Int.le_trans h1 h2) fun j hj => hord j hj (by omega))
    simp -implicitDefEqProofs (maxSteps := 999999) (disch := first | with_reducible rfl | omega | (simp only [nA, nS, nD] <;> omega) | fail) only [go_sem, t0, t3, hi, ht]
end Go.Ab.Try
set_option linter.unusedSimpArgs false
set_option linter.unusedVariables false
namespace Go.Ab
theorem nth_iv {L : List Int} {i : Nat} (h : i < L.length) : nth i (L.map iv) = some (.int .i64 L[i]) := by
  rw [nth_eq, List.getElem?_map, List.getElem?_eq_getElem h]; rfl
theorem put_iv {L : List Int} {i : Nat} (h : i < L.length) (v : Int) : putN i [.int .i64 v] (L.map iv) = some ((L.set i v).map iv) := by
  have e : L = L.take i ++ L[i] :: L.drop (i + 1) := by rw [← List.drop_eq_getElem_cons h, List.take_append_drop]
  have := putN_app (pre := (L.take i).map iv) (new := [iv v]) (old := [iv L[i]]) (rest := (L.drop (i + 1)).map iv) rfl
  rw [List.length_map, List.length_take, Nat.min_eq_left (by omega)] at this
  have e2 : L.map iv = (L.take i).map iv ++ [iv L[i]] ++ (L.drop (i + 1)).map iv := by
    rw [show [iv L[i]] = [L[i]].map iv from rfl, ← List.map_append, ← List.map_append, List.append_assoc]
    exact congrArg (List.map iv) e
  have e3 : (L.set i v).map iv = (L.take i).map iv ++ [iv v] ++ (L.drop (i + 1)).map iv := by
    rw [List.set_eq_take_append_cons_drop, if_pos h]; simp
  rw [e2, e3]; exact this
theorem slcFrom_gr {h : H} {b k : Nat} {L : List Int} (hb : h.get b = some (.cells (.gr 1) (L.map iv))) (h0 : 0 < L.length) (hk : k ≤ L.length) : slcFrom h 1 (.sl b 0 L.length (.slk 0 0)) (.int .i64 (k : Int)) = some (.sl b k (L.length - k) (.slk k 0)) := by
  have hi : ∀ tm : T V, (Opd.c (.int .i64 (k : Int))).ev tm = .int .i64 (k : Int) := fun _ => rfl
  have e1 : Nat.ble k L.length = true := by simp; exact hk
  have e2 : Nat.ble L.length L.length = true := by simp
  have e4 : Nat.blt 0 (L.length + L.length) = true := by rw [Nat.blt_eq]; omega
  have e5 : Nat.beq 1 1 = true := rfl
  have e6 : Nat.beq 0 (0 * 1) = true := rfl
  have e7 : Nat.ble L.length (L.map iv).length = true := by simp
  have e8 : slkRoom h b 0 1 = L.length := by simp [slkRoom, hb, lenN_eq]
  simp only [slcFrom, q_slc, slkOk, hb, lenN_eq, e5, e6, e7, og_true, e8, bnd3, natO, hi, natk_cst, bnds, e1, e2, subS, e4, Nat.mul_one, Nat.zero_add]
namespace Try
open Go.Ab.Silk (Inc lexlt)
def Adj (l : List Int) : Prop := ∀ i (h : i + 1 < l.length), l[i] ≠ l[i + 1]
set_option maxHeartbeats 2000000 in
theorem compact_ev {h : H} {b : Nat} {l : List Int} (hw : h.wf) (hb : h.get b = some (.cells (.gr 1) (l.map iv))) (h2 : 2 ≤ l.length) (hl : l.length ≤ 1000) (Q : V → H → Prop)
    (q : ∀ y h' (m : Nat), q_len y = some (.int .i64 (m : Int)) → (Adj l → m = l.length) → (¬ Adj l → m < l.length) → Keeps (fun c => c = b) h h' → h'.wf → Q y h') : Ev fnG fastA (.fn 152 [] []) [.sl b 0 l.length (.slk 0 0)] h Q := by
  refine Ev_body (fd := c152) rfl rfl rfl ?_
  have hn2 : ¬ (l.length : Int) < 2 := by omega
  have hiad : ∀ k : Nat, k < l.length → q_iad 1 (.sl b 0 l.length (.slk 0 0)) (.int .i64 (k : Int)) = some (.ptr b k) := fun k hk => by
    rw [q_iad_sl (nat_cst k) hk, Nat.mul_one, Nat.zero_add]
  simp -implicitDefEqProofs (maxSteps := 999999) (disch := first | with_reducible rfl | omega | (simp only [nA, nS, nD] <;> omega) | fail) only [c152, go_sem, hn2]
  refine W_loop (fun kk s => ∃ tm i, s = ⟨tm, h, []⟩ ∧ kk = l.length - i ∧ 1 ≤ i ∧ i ≤ l.length ∧ (∀ j (hj : j + 1 < l.length), j + 1 < i → l[j] ≠ l[j + 1]) ∧ (Opd.t 0).ev tm = .sl b 0 l.length (.slk 0 0) ∧ (Opd.t 3).ev tm = .int .i64 (i : Int)) ?_ (l.length - 1) _ ⟨_, 1, rfl, rfl, Nat.le_refl _, by omega, fun j hj h0 => by omega, (by simp [ev_c, ev_put] <;> rfl), (by simp [ev_c, ev_put] <;> rfl)⟩
  rintro kk s ⟨tm, i, rfl, hkk, i1, i2, hadj, t0, t3⟩
  by_cases hi : i < l.length
  · have hi' : (i : Int) < (l.length : Int) := by omega
    have e1 : (i : Int) - 1 = ((i - 1 : Nat) : Int) := by omega
    have n1 := nth_iv hi
    have n2 := nth_iv (L := l) (i := i - 1) (by omega)
    by_cases heq : l[i] = l[i - 1]
    · have hna : ¬ Adj l := fun ha => by
        have := ha (i - 1) (by omega)
        simp only [show i - 1 + 1 = i by omega] at this
        exact this heq.symm
      have deq : decide (l[i] = l[i - 1]) = true := decide_eq_true heq
      have hfrom := slcFrom_gr hb (by omega) (k := i) (by omega)
      have lb := hw _ _ hb
      simp -implicitDefEqProofs (maxSteps := 999999) (disch := first | with_reducible rfl | omega | (simp only [nA, nS, nD] <;> omega) | fail) only [go_sem, t0, t3, hi', wr_in, e1, hiad i hi, hiad (i - 1) (by omega), cells_of hb, n1, n2, deq, q_slc_from, hfrom]
      refine W.mono (Q := fun x1 s => x1 = .ext 2 ∧ ∃ (tm : Go.Ab.T V) (hh : H) (L : List Int) (m : Nat), s = ⟨tm, hh, []⟩ ∧ Keeps (fun c => c = b) h hh ∧ hh.wf ∧ hh.get b = some (.cells (.gr 1) (L.map iv)) ∧ L.length = l.length ∧ m < l.length ∧ (Opd.t 0).ev tm = .sl b 0 l.length (.slk 0 0) ∧ (Opd.t 3).ev tm = .int .i64 (m : Int))
        (W_loop (fun kk s => ∃ (tm : Go.Ab.T V) (hh : H) (L : List Int) (m k2 : Nat), s = ⟨tm, hh, []⟩ ∧ kk = l.length - i - k2 ∧ 1 ≤ k2 ∧ i + k2 ≤ l.length ∧ m + 1 ≤ i + k2 ∧ Keeps (fun c => c = b) h hh ∧ hh.wf ∧ hh.get b = some (.cells (.gr 1) (L.map iv)) ∧ L.length = l.length ∧
          (Opd.t 0).ev tm = .sl b 0 l.length (.slk 0 0) ∧ (Opd.t 3).ev tm = .int .i64 (m : Int) ∧ (Opd.t 4).ev tm = .sl b i (l.length - i) (.slk i 0) ∧ (Opd.t 5).ev tm = .int .i64 (k2 : Int)) ?_ (l.length - i - 1) _
          ⟨_, _, l, i, 1, rfl, rfl, Nat.le_refl _, by omega, by omega, Keeps.refl _ _, hw, hb, rfl, (by simp [ev_c, ev_put, t0] <;> rfl), (by simp [ev_c, ev_put, t3] <;> rfl), (by simp [ev_c, ev_put] <;> rfl), (by simp [ev_c, ev_put] <;> rfl)⟩) fun x1 s hx1 => ?_
      · rintro kk s ⟨tm, hh, L, m, k2, rfl, hkk, k1, k3, k4, kp, wh, gL, hL, t0, t3, t4, t5⟩
        by_cases hk : k2 < l.length - i
        · have hk' : (k2 : Int) < ((l.length - i : Nat) : Int) := by omega
          have e2 : (k2 : Int) - 1 = ((k2 - 1 : Nat) : Int) := by omega
          have a1 : q_iad 1 (.sl b i (l.length - i) (.slk i 0)) (.int .i64 (k2 : Int)) = some (.ptr b (i + k2)) := by rw [q_iad_sl (nat_cst k2) hk, Nat.mul_one]
          have a2 : q_iad 1 (.sl b i (l.length - i) (.slk i 0)) (.int .i64 ((k2 - 1 : Nat) : Int)) = some (.ptr b (i + (k2 - 1))) := by rw [q_iad_sl (nat_cst (k2 - 1)) (by omega), Nat.mul_one]
          have a3 := hiad m (by omega)
          have v1 := nth_iv (L := L) (i := i + k2) (by omega)
          have v2 := nth_iv (L := L) (i := i + (k2 - 1)) (by omega)
          cases hd : decide (L[i + k2]'(by omega) ≠ L[i + (k2 - 1)]'(by omega)) with
          | false =>
            simp -implicitDefEqProofs (maxSteps := 999999) (disch := first | with_reducible rfl | omega | (simp only [nA, nS, nD] <;> omega) | fail) only [go_sem, t0, t3, t4, t5, hk', wr_in, e2, a1, a2, cells_of gL, v1, v2, hd, wr_succ]
            exact ⟨_, by omega, _, _, L, m, k2 + 1, rfl, rfl, by omega, by omega, by omega, kp, wh, gL, hL, (by simp [ev_c, ev_put, t0] <;> rfl), (by simp [ev_c, ev_put, t3] <;> rfl), (by simp [ev_c, ev_put, t4] <;> rfl), (by simp [ev_c, ev_put] <;> rfl)⟩
          | true =>
            have hp := put_iv (L := L) (i := m) (by omega) (L[i + k2]'(by omega))
            simp -implicitDefEqProofs (maxSteps := 999999) (disch := first | with_reducible rfl | omega | (simp only [nA, nS, nD] <;> omega) | fail) only [go_sem, t0, t3, t4, t5, hk', wr_in, e2, a1, a2, a3, cells_of gL, gL, v1, v2, hd, hp, wr_succ]
            exact ⟨_, by omega, _, _, _, m + 1, k2 + 1, rfl, rfl, by omega, by omega, by omega, (kp.trans (Keeps.set hh b _)).mono fun c h => h.elim id id, H.wf_set wh _ gL, get_set_same rfl, by rw [List.length_set]; exact hL, (by simp [ev_c, ev_put, t0] <;> rfl), (by simp [ev_c, ev_put] <;> rfl), (by simp [ev_c, ev_put, t4] <;> rfl), (by simp [ev_c, ev_put] <;> rfl)⟩
        · have hk' : ¬ (k2 : Int) < ((l.length - i : Nat) : Int) := by omega
          simp -implicitDefEqProofs (maxSteps := 999999) (disch := first | with_reducible rfl | omega | (simp only [nA, nS, nD] <;> omega) | fail) only [go_sem, t0, t3, t4, t5, hk']
          exact ⟨_, _, L, m, rfl, kp, wh, gL, hL, by omega, (by simp [ev_c, ev_put, t0] <;> rfl), (by simp [ev_c, ev_put, t3] <;> rfl)⟩
      clear t0 t3
      obtain ⟨rfl, tm, hh, L, m, rfl, kp, wh, gL, hL, hm, t0, t3⟩ := hx1
      have f1 := slcFrom_gr gL (by omega) (k := m) (by omega)
      rw [hL] at f1
      obtain ⟨n, hn⟩ : ∃ n, l.length - m = n + 1 := ⟨l.length - m - 1, by omega⟩
      have hrep : ∀ n, repN n [V.int .i64 0] = (List.replicate n (0 : Int)).map iv := fun n => by
        induction n with
        | zero => rfl
        | succ n ih => simp only [repN, appN_eq, ih, List.replicate_succ, List.map_cons]; rfl
      have hp : putN m ((List.replicate (n + 1) (0 : Int)).map iv) (L.map iv) = some ((L.take m ++ List.replicate (n + 1) 0).map iv) := by
        have := putN_app (pre := (L.take m).map iv) (new := (List.replicate (n + 1) (0 : Int)).map iv) (old := (L.drop m).map iv) (rest := []) (by simp; omega)
        rw [List.length_map, List.length_take, Nat.min_eq_left (by omega), List.append_nil, List.append_nil, ← List.map_append, List.take_append_drop, ← List.map_append] at this
        exact this
      have ho : allOne ((List.replicate (n + 1) (0 : Int)).map iv) = true := by
        rw [allOne_eq]
        intro v hv
        obtain ⟨_, _, rfl⟩ := List.mem_map.1 hv; rfl
      have hclr : e_clr hh [V.int .i64 0] (.sl b m (l.length - m) (.slk m 0)) = some (.und, hh.set b (.cells (.gr 1) ((L.take m ++ List.replicate (n + 1) 0).map iv))) := by
        rw [e_clr_sl, hn, hrep]
        rw [List.replicate_succ, List.map_cons] at hp ho ⊢
        rw [H.put_gr ho gL hp, withV_some]
      have wS := H.wf_set wh (.cells (.gr 1) ((L.take m ++ List.replicate (n + 1) 0).map iv)) gL
      have gS : (hh.set b (.cells (.gr 1) ((L.take m ++ List.replicate (n + 1) 0).map iv))).get b = some (.cells (.gr 1) ((L.take m ++ List.replicate (n + 1) 0).map iv)) := get_set_same rfl
      have ll : (L.take m ++ List.replicate (n + 1) (0 : Int)).length = l.length := by simp; omega
      have lbS : b < (hh.set b (.cells (.gr 1) ((L.take m ++ List.replicate (n + 1) 0).map iv))).next := wS _ _ gS
      have ct : CutO (fun _ => True) (hh.set b (.cells (.gr 1) ((L.take m ++ List.replicate (n + 1) 0).map iv))) (.sl b 0 l.length (.slk 0 0)) 1 ((L.take m ++ List.replicate (n + 1) (0 : Int)).map encI) :=
        ⟨fun r hr => by obtain ⟨_, _, rfl⟩ := List.mem_map.1 hr; rfl, .inr (.inl ⟨b, [], 0, by rw [List.length_map, ll], trivial, lbS, by rw [List.append_nil, map_flat]; exact gS, by simp⟩)⟩
      obtain ⟨y, hy1, hy2, hy3⟩ := ct.to (k := m) (by omega) (by rw [List.length_map, ll]; omega) (by rw [List.length_map, ll]; omega)
      have ly : q_len y = some (.int .i64 (m : Int)) := by
        have := (hy2.sl (by rw [List.length_take, List.length_map, ll]; omega)).len
        rw [this, List.length_take, List.length_map, ll, Nat.min_eq_left (by omega)]
      simp -implicitDefEqProofs (maxSteps := 999999) (disch := first | with_reducible rfl | omega | (simp only [nA, nS, nD] <;> omega) | fail) only [go_sem, t0, t3, q_slc_from, f1, WI_clr, hclr, q_slc_to, hy1]
      exact q y _ m ly (fun ha => absurd ha hna) (fun _ => hm) ((kp.trans (Keeps.set hh b _)).mono fun c h => h.elim id id) wS
    · have deq : decide (l[i] = l[i - 1]) = false := decide_eq_false heq
      simp -implicitDefEqProofs (maxSteps := 999999) (disch := first | with_reducible rfl | omega | (simp only [nA, nS, nD] <;> omega) | fail) only [go_sem, t0, t3, hi', wr_in, e1, hiad i hi, hiad (i - 1) (by omega), cells_of hb, n1, n2, deq, wr_succ]
      exact ⟨_, by omega, _, i + 1, rfl, rfl, by omega, by omega, fun j hj h0 => by
        by_cases e : j + 1 = i
        · subst e; exact fun h => heq h.symm
        · exact hadj j hj (by omega), (by simp [ev_c, ev_put, t0] <;> rfl), (by simp [ev_c, ev_put] <;> rfl)⟩
  · have hi' : ¬ (i : Int) < (l.length : Int) := by omega
    simp -implicitDefEqProofs (maxSteps := 999999) (disch := first | with_reducible rfl | omega | (simp only [nA, nS, nD] <;> omega) | fail) only [go_sem, t0, t3, hi']
    exact q _ _ l.length rfl (fun _ => rfl) (fun hna => absurd (fun j hj => hadj j hj (by omega)) hna) (Keeps.refl _ _) hw
theorem cloneGr_ev {h : H} {x : V} {l : List Int} (hw : h.wf) (hx : SlAt h x 1 (l.map encI)) (hl : l.length ≤ 1000000) (h0 : 0 < l.length) (Q : V → H → Prop) (q : ∀ b h', h.Sub h' → h.next ≤ b → h'.get b = some (.cells (.gr 1) (l.map iv)) → Q (.sl b 0 l.length (.slk 0 0)) h') : Ev fnG fastA (.fn 135 [] []) [x] h Q := by
  refine Ev_body (fd := c135) rfl rfl rfl ?_
  rcases hx.2.2 with ⟨rfl, e⟩ | ⟨b, o, c, cs, rfl, _⟩
  · have := congrArg List.length e; simp at this; rw [this] at h0; simp at h0
  · simp -implicitDefEqProofs (maxSteps := 999999) (disch := first | with_reducible rfl | omega | (simp only [nA, nS, nD] <;> omega) | fail) only [c135, go_sem]
    have s1 : h.Sub (h.add (.cells .rw [])) := (H.Sub.refl hw).add _
    have hx1 := (hx.mono s1).elems
    rw [map_flat, List.length_map] at hx1
    rw [List.length_map]
    obtain ⟨k, hk⟩ : ∃ k, l.length = k + 1 := ⟨l.length - 1, by omega⟩
    rw [e_app_eq, hx1.1, hx1.2]
    simp only [ob_some]
    rw [hk, e_app_full (by omega) (elems_0 _ _ _ _ _) (by simp only [Nat.zero_add]; omega) (by omega), grown_eq, P2_some]
    simp -implicitDefEqProofs (maxSteps := 999999) (disch := first | with_reducible rfl | omega | (simp only [nA, nS, nD] <;> omega) | fail) only [go_sem]
    have := q (h.next + 1) ((h.add (.cells .rw [])).add (.cells (.gr 1) (l.map iv))) (s1.add _) (by omega) (get_add_new (by rw [H.next_add]))
    rw [hk] at this
    simpa using this
theorem lt_iff {l : List Int} : l.Pairwise (· < ·) ↔ l.Pairwise (· ≤ ·) ∧ Adj l := by
  constructor
  · intro h
    exact ⟨h.imp fun h => by omega, fun i hi => by
      have := List.pairwise_iff_getElem.1 h i (i + 1) (by omega) hi (by omega); omega⟩
  · rintro ⟨h1, h2⟩
    refine adj_pw (R := fun a b => a < b) (fun a b c h1 h2 => Int.lt_trans h1 h2) fun i hi => ?_
    have := List.pairwise_iff_getElem.1 h1 i (i + 1) (by omega) hi (by omega)
    have := h2 i hi
    show l[i] < l[i + 1]
    omega
theorem rising_ev {h : H} {x : V} {l : List Int} (hw : h.wf) (hx : SlAt h x 1 (l.map encI)) (hl : l.length ≤ 1000) (Q : V → H → Prop) (q : ∀ h', h.Sub h' → Q (.bool (decide (l.Pairwise (· < ·)))) h') : Ev fnG fastA (.fn 128 [] []) [x] h Q := by
  have hlx := hx.lenE
  refine Ev_body (fd := c128) rfl rfl rfl ?_
  by_cases h1 : l.Pairwise (· ≤ ·)
  · have d1 : decide (l.Pairwise (· ≤ ·)) = true := decide_eq_true h1
    by_cases h2 : 2 ≤ l.length
    · simp -implicitDefEqProofs (maxSteps := 999999) (disch := first | with_reducible rfl | omega | (simp only [nA, nS, nD] <;> omega) | fail) only [c128, go_sem, isSorted_ev hx, d1]
      refine cloneGr_ev hw hx (by omega) (by omega) _ fun b h3 s3 nb g3 => ?_
      simp -implicitDefEqProofs (maxSteps := 999999) (disch := first | with_reducible rfl | omega | (simp only [nA, nS, nD] <;> omega) | fail) only [go_sem]
      refine compact_ev s3.wf g3 h2 hl _ fun y h4 m ly m1 m2 k4 w4 => ?_
      have e : decide ((m : Int) = (l.length : Int)) = decide (l.Pairwise (· < ·)) := by
        rw [decide_eq_decide, lt_iff]
        constructor
        · intro he
          refine ⟨h1, Classical.byContradiction fun hna => ?_⟩
          have := m2 hna; omega
        · rintro ⟨_, ha⟩
          rw [m1 ha]
      simp -implicitDefEqProofs (maxSteps := 999999) (disch := first | with_reducible rfl | omega | (simp only [nA, nS, nD] <;> omega) | fail) only [go_sem, ly, hlx, e]
      exact q _ (k4.sub s3 hw (fun c hc => by omega) w4)
    · have hp : decide (l.Pairwise (· < ·)) = true := decide_eq_true (lt_iff.2 ⟨h1, fun i hi => by omega⟩)
      rw [hp] at q
      simp -implicitDefEqProofs (maxSteps := 999999) (disch := first | with_reducible rfl | omega | (simp only [nA, nS, nD] <;> omega) | fail) only [c128, go_sem, isSorted_ev hx, d1]
      refine cloneInt_ev hw hx (by rw [List.length_map]; omega) _ fun v h3 ov => ?_
      have lv := (ov.sl (by simp only [List.length_map]; omega)).lenE
      simp -implicitDefEqProofs (maxSteps := 999999) (disch := first | with_reducible rfl | omega | (simp only [nA, nS, nD] <;> omega) | fail) only [go_sem]
      refine Ev_body (fd := c152) rfl rfl rfl ?_
      have hn2 : (l.length : Int) < 2 := by omega
      have ee : decide ((l.length : Int) = (l.length : Int)) = true := decide_eq_true rfl
      simp -implicitDefEqProofs (maxSteps := 999999) (disch := first | with_reducible rfl | omega | (simp only [nA, nS, nD] <;> omega) | fail) only [c152, go_sem, lv, hn2, hlx, ee]
      exact q _ ov.1
  · have d1 : decide (l.Pairwise (· ≤ ·)) = false := decide_eq_false h1
    have d2 : decide (l.Pairwise (· < ·)) = false := decide_eq_false fun h => h1 (lt_iff.1 h).1
    rw [d2] at q
    simp -implicitDefEqProofs (maxSteps := 999999) (disch := first | with_reducible rfl | omega | (simp only [nA, nS, nD] <;> omega) | fail) only [c128, go_sem, isSorted_ev hx, d1]
    exact q _ (H.Sub.refl hw)
def isEy (t : Tb) (p : Int) : Bool := decide (0 ≤ p ∧ p < (t.eyes.length : Int))
theorem eye_ev {h : H} {E L P : V} {t : Tb} (hw : h.wf) (ht : TbIs h (.agg [E, L, P]) t) (p : Int) (Q : V → H → Prop) (q : ∀ h', h.Sub h' → Q (.bool (isEy t p)) h') : Ev fnG fastA (.fn 127 [] []) [.agg [E, L, P], .int .i64 p] h Q := by
  obtain ⟨E', L', P', e, aE, aL, aP⟩ := ht
  cases e
  have hlE := aE.lenE
  have bE := aE.boundE
  refine Ev_body (fd := c127) rfl rfl rfl ?_
  have e : inB p 0 ((t.eyes.length : Int) - 1) = isEy t p := by unfold inB isEy; rw [Bool.eq_iff_iff]; simp; omega
  simp -implicitDefEqProofs (maxSteps := 999999) (disch := first | with_reducible rfl | omega | (simp only [nA, nS, nD] <;> omega) | fail) only [c127, go_sem, hlE, wr_in, in_ev, e]
  exact q _ ((by repeat (first | assumption | exact H.Sub.refl (by assumption) | refine H.Sub.add ?_ _ | refine H.Sub.set ?_ (by first | omega | (simp only [H.next_add, H.next_set, H.next_del] <;> omega)) (by first | omega | (simp only [H.next_add, H.next_set, H.next_del] <;> omega)) (by assumption) _)))
def lstE (t : Tb) (l : List Int) : Int := if check t ≠ 0 then check t else if l.all (isEy t) = false then 1 else if decide (l.Pairwise (· < ·)) = false then 4 else 0
def enR (t : Tb) (l : List Int) : Bool := decide (lstE t l = 0) && enoughB t l
theorem Enough_ev {h : H} {v x : V} {t : Tb} {l : List Int} (hw : h.wf) (ht : TbIs h v t) (hx : SlAt h x 1 (l.map encI)) (hl : l.length ≤ 1000) (Q : V → H → Prop) (q : ∀ h', h.Sub h' → Q (.tup [.bool (enR t l), .int .i64 (lstE t l)]) h') : Ev fnG fastA (.fn 67 [] []) [v, x] h Q := by
  have ht0 := ht
  obtain ⟨E, L, P, rfl, aE, aL, aP⟩ := ht
  refine Ev_body (fd := c67) rfl rfl rfl ?_
  have s1 : h.Sub (h.add (.cells .rw [E, L, P])) := (by repeat (first | assumption | exact H.Sub.refl (by assumption) | refine H.Sub.add ?_ _ | refine H.Sub.set ?_ (by first | omega | (simp only [H.next_add, H.next_set, H.next_del] <;> omega)) (by first | omega | (simp only [H.next_add, H.next_set, H.next_del] <;> omega)) (by assumption) _))
  have g1 : (h.add (.cells .rw [E, L, P])).cells h.next = some [E, L, P] := cells_add_new rfl
  have bad : ∀ h', h.Sub h' → ∀ e : Int, e ≠ 0 → lstE t l = e → Q (.tup [.bool false, .int .i64 e]) h' := fun h' s e he e1 => by
    have q' := q _ s
    have : enR t l = false := by unfold enR; rw [e1, decide_eq_false he]; rfl
    rw [this, e1] at q'; exact q'
  simp -implicitDefEqProofs (maxSteps := 999999) (disch := first | with_reducible rfl | omega | (simp only [nA, nS, nD] <;> omega) | fail) only [c67, go_sem]
  refine opened_use s1.wf (ht0.mono s1) _ (fun h5 s45 c => ?_) fun h5 d s15 c g hd => ?_
  · simp -implicitDefEqProofs (maxSteps := 999999) (disch := first | with_reducible rfl | omega | (simp only [nA, nS, nD] <;> omega) | fail) only [go_sem, ne_eq, c, not_false_eq_true]
    exact bad _ (s1.trans s45) _ c (by unfold lstE; rw [if_pos c])
  have s5 := s1.trans s15
  simp -implicitDefEqProofs (maxSteps := 999999) (disch := first | with_reducible rfl | omega | (simp only [nA, nS, nD] <;> omega) | fail) only [go_sem, ne_eq, not_true_eq_false, s15.cells g1]
  refine (everyInt_ev (p := isEy t) s15.wf (hx.mono s5) fun a _ => fun h6 s6 => Ev.gen fun Q q => Ev_bound (eye_ev s6.wf (ht0.mono (s5.trans s6)) a _ fun h7 s7 => q _ _ ⟨rfl, s7⟩)).mono fun u h8 hu => ?_
  obtain ⟨rfl, s8⟩ := hu
  have s58 := s5.trans s8
  cases ha : l.all (isEy t)
  · simp -implicitDefEqProofs (maxSteps := 999999) (disch := first | with_reducible rfl | omega | (simp only [nA, nS, nD] <;> omega) | fail) only [go_sem, Bool.not_false]
    exact bad _ s58 1 (by decide) (by unfold lstE; rw [if_neg (by simp [c]), if_pos ha])
  simp -implicitDefEqProofs (maxSteps := 999999) (disch := first | with_reducible rfl | omega | (simp only [nA, nS, nD] <;> omega) | fail) only [go_sem, Bool.not_true]
  refine rising_ev s8.wf (hx.mono s58) hl _ fun h9 s9 => ?_
  have s59 := s58.trans s9
  cases hr : decide (l.Pairwise (· < ·))
  · simp -implicitDefEqProofs (maxSteps := 999999) (disch := first | with_reducible rfl | omega | (simp only [nA, nS, nD] <;> omega) | fail) only [go_sem, Bool.not_false]
    exact bad _ s59 4 (by decide) (by unfold lstE; rw [if_neg (by simp [c]), if_neg (by simp [ha]), if_pos hr])
  have e0 : lstE t l = 0 := by unfold lstE; rw [if_neg (by simp [c]), if_neg (by simp [ha]), if_neg (by rw [hr]; simp)]
  simp -implicitDefEqProofs (maxSteps := 999999) (disch := first | with_reducible rfl | omega | (simp only [nA, nS, nD] <;> omega) | fail) only [go_sem, Bool.not_true]
  refine enough_ev s9.wf (hd.mono (s8.trans s9)) g (hx.mono s59) _ fun hA sA => ?_
  have q' := q _ (s59.trans sA)
  have : enR t l = enoughB t l := by unfold enR; rw [e0]; simp
  rw [this, e0] at q'
  simp -implicitDefEqProofs (maxSteps := 999999) (disch := first | with_reducible rfl | omega | (simp only [nA, nS, nD] <;> omega) | fail) only [go_sem]
  exact q'
end Try
end Go.Ab
set_option linter.unusedSimpArgs false
set_option linter.unusedVariables false
namespace Go.Ab.Try
open Go.Ab.Silk (Inc lexlt IsMin)
def witF (t : Tb) (e : Int) (a b : Nat) : Option (Nat × Nat) := if a < b ∧ tellP t a b = [e] then some (a, b) else none
def wit (t : Tb) (e : Int) : Option (Nat × Nat) := (List.range t.pieces.length).findSome? fun a => (List.range t.pieces.length).findSome? fun b => witF t e a b
theorem wit_some {t : Tb} {e : Int} {p : Nat × Nat} (h : wit t e = some p) : p.1 < p.2 ∧ p.2 < t.pieces.length ∧ tellP t p.1 p.2 = [e] := by
  obtain ⟨a, ha, h1⟩ := List.exists_of_findSome?_eq_some h
  obtain ⟨b, hb, h2⟩ := List.exists_of_findSome?_eq_some h1
  unfold witF at h2
  split at h2
  · rename_i hc
    cases h2
    exact ⟨hc.1, List.mem_range.1 hb, hc.2⟩
  · cases h2
def witV (r : Option (Nat × Nat)) : V := match r with | some p => .tup [.int .i64 (p.1 : Int), .int .i64 (p.2 : Int), .bool true] | none => .tup [.int .i64 0, .int .i64 0, .bool false]
theorem tellP_len {t : Tb} (g : Good t) (r p : Nat) : (tellP t r p).length ≤ 6 := by
  have := g.eyes
  unfold tellP
  split
  · exact Nat.le_trans (tellK_len _ _ _ _) (by omega)
  · simp
set_option maxHeartbeats 1000000 in
theorem witness_ev {h : H} {d : Nat} {t : Tb} (hw : h.wf) (hd : DkAt h d t) (g : Good t) (e : Int) (Q : V → H → Prop) (q : ∀ h', h.Sub h' → Q (witV (wit t e)) h') : Ev fnG fastA (.fn 130 [] []) [.ptr d 0, .int .i64 e] h Q := by
  obtain ⟨E, L, P, gd, aE, aL, aP⟩ := id hd
  have gp := g.pieces
  have hlP := aP.lenE
  refine Ev_body (fd := c130) rfl rfl rfl ?_
  simp -implicitDefEqProofs (maxSteps := 999999) (disch := first | with_reducible rfl | omega | (simp only [nA, nS, nD] <;> omega) | fail) only [c130, go_sem, cells_of gd, hlP]
  refine W_count t.pieces.length (fun a s => ∃ tm h', s = ⟨tm, h', []⟩ ∧ h.Sub h' ∧ (∀ a', a' < a → ((List.range t.pieces.length).findSome? fun b => witF t e a' b) = none) ∧ (Opd.t 0).ev tm = .ptr d 0 ∧ (Opd.t 1).ev tm = .int .i64 e ∧ (Opd.t 14).ev tm = .int .i64 (t.pieces.length : Int) ∧ (Opd.t 15).ev tm = .int .i64 (a : Int))
    ?_ ?_ (i := 0) (Nat.zero_le _) ⟨_, _, rfl, H.Sub.refl hw, fun a' h0 => by omega, (by simp [ev_c, ev_put] <;> rfl), (by simp [ev_c, ev_put] <;> rfl), (by simp [ev_c, ev_put] <;> rfl), (by simp [ev_c, ev_put] <;> rfl)⟩
  · rintro a s ha ⟨tm, h', rfl, hs, hno, t0, t1, t14, t15⟩
    have ha' : (a : Int) < (t.pieces.length : Int) := by omega
    simp -implicitDefEqProofs (maxSteps := 999999) (disch := first | with_reducible rfl | omega | (simp only [nA, nS, nD] <;> omega) | fail) only [go_sem, t0, t1, t14, t15, ha', wr_succ]
    refine W_loop (fun kk s => ∃ tm h' b, s = ⟨tm, h', []⟩ ∧ kk = t.pieces.length - b ∧ a < b ∧ b ≤ t.pieces.length ∧ h.Sub h' ∧ (∀ b', b' < b → witF t e a b' = none) ∧ (Opd.t 0).ev tm = .ptr d 0 ∧ (Opd.t 1).ev tm = .int .i64 e ∧ (Opd.t 7).ev tm = .int .i64 (a : Int) ∧ (Opd.t 8).ev tm = .int .i64 (b : Int) ∧ (Opd.t 14).ev tm = .int .i64 (t.pieces.length : Int) ∧ (Opd.t 15).ev tm = .int .i64 (a : Int)) ?_ (t.pieces.length - (a + 1)) _
      ⟨_, _, a + 1, rfl, rfl, by omega, by omega, hs, fun b' hb' => by unfold witF; rw [if_neg (by omega)], (by simp [ev_c, ev_put, t0] <;> rfl), (by simp [ev_c, ev_put, t1] <;> rfl), (by simp [ev_c, ev_put] <;> rfl), (by simp [ev_c, ev_put] <;> rfl), (by simp [ev_c, ev_put, t14] <;> rfl), (by simp [ev_c, ev_put, t15] <;> rfl)⟩
    clear t0 t1 t14 t15 hs
    rintro kk s ⟨tm, h', b, rfl, hkk, hab, hbn, hs, hnb, t0, t1, t7, t8, t14, t15⟩
    have gd' := hs.cells (cells_of gd)
    by_cases hb : b < t.pieces.length
    · have hb' : (b : Int) < (t.pieces.length : Int) := by omega
      simp -implicitDefEqProofs (maxSteps := 999999) (disch := first | with_reducible rfl | omega | (simp only [nA, nS, nD] <;> omega) | fail) only [go_sem, t0, t1, t7, t8, t14, t15, gd', hlP, hb']
      refine dtellers_ev hs.wf (hd.mono hs) g ha hb _ fun y h2 oy => ?_
      have ll := tellP_len g a b
      have sB := (H.Sub.refl oy.1.wf).add (.cells .rw [.int .i64 e])
      have s2 := hs.trans (oy.1.trans sB)
      simp -implicitDefEqProofs (maxSteps := 999999) (disch := first | with_reducible rfl | omega | (simp only [nA, nS, nD] <;> omega) | fail) only [go_sem, t0, t1, t7, t8, t14, t15]
      refine (equalInt_ev (l := tellP t a b) (r := [e]) (((oy.sl (by simp only [List.length_map]; omega)).mono sB)) own1_lit).mono fun u h3 hu => ?_
      obtain ⟨rfl, rfl⟩ := hu
      by_cases he : tellP t a b = [e]
      · have hd1 : decide (tellP t a b = [e]) = true := decide_eq_true he
        have hw1 : witF t e a b = some (a, b) := by unfold witF; rw [if_pos ⟨hab, he⟩]
        have : wit t e = some (a, b) := some_first (some_first hw1 hnb _ hb) hno _ ha
        rw [this] at q
        rw [hd1]
        simp -implicitDefEqProofs (maxSteps := 999999) (disch := first | with_reducible rfl | omega | (simp only [nA, nS, nD] <;> omega) | fail) only [go_sem, t0, t1, t7, t8, t14, t15]
        exact q _ s2
      · have hd1 : decide (tellP t a b = [e]) = false := decide_eq_false he
        rw [hd1]
        simp -implicitDefEqProofs (maxSteps := 999999) (disch := first | with_reducible rfl | omega | (simp only [nA, nS, nD] <;> omega) | fail) only [go_sem, t0, t1, t7, t8, t14, t15, wr_succ]
        exact ⟨_, by omega, _, _, b + 1, rfl, rfl, by omega, by omega, s2, fun b' hb' => by
          by_cases e1 : b' = b
          · subst e1; unfold witF; rw [if_neg (fun h => he h.2)]
          · exact hnb b' (by omega), (by simp [ev_c, ev_put, t0] <;> rfl), (by simp [ev_c, ev_put, t1] <;> rfl), (by simp [ev_c, ev_put, t7] <;> rfl), (by simp [ev_c, ev_put] <;> rfl), (by simp [ev_c, ev_put, t14] <;> rfl), (by simp [ev_c, ev_put, t15] <;> rfl)⟩
    · have hb' : ¬ (b : Int) < (t.pieces.length : Int) := by omega
      simp -implicitDefEqProofs (maxSteps := 999999) (disch := first | with_reducible rfl | omega | (simp only [nA, nS, nD] <;> omega) | fail) only [go_sem, t0, t1, t7, t8, t14, t15, gd', hlP, hb', wr_succ]
      exact ⟨_, _, rfl, hs, fun a' h0 => by
        by_cases e1 : a' = a
        · subst e1; exact none_all fun b' hb' => hnb b' (by omega)
        · exact hno a' (by omega), (by simp [ev_c, ev_put, t0] <;> rfl), (by simp [ev_c, ev_put, t1] <;> rfl), (by simp [ev_c, ev_put, t14] <;> rfl), (by simp [ev_c, ev_put] <;> rfl)⟩
  · rintro s ⟨tm, h', rfl, hs, hno, t0, t1, t14, t15⟩
    have : wit t e = none := none_all hno
    rw [this] at q
    simp -implicitDefEqProofs (maxSteps := 999999) (disch := first | with_reducible rfl | omega | (simp only [nA, nS, nD] <;> omega) | fail) only [go_sem, t0, t1, t14, t15, Int.lt_irrefl]
    exact q _ hs
def witE (t : Tb) (e : Int) : Int := if check t ≠ 0 then check t else if isEy t e = false then 1 else if (wit t e).isSome = false then 6 else 0
def witA (t : Tb) (e : Int) : Nat × Nat := if witE t e = 0 then (wit t e).getD (0, 0) else (0, 0)
theorem Witness_ev {h : H} {v : V} {t : Tb} (hw : h.wf) (ht : TbIs h v t) (e : Int) (Q : V → H → Prop) (q : ∀ h', h.Sub h' → Q (.tup [.int .i64 ((witA t e).1 : Int), .int .i64 ((witA t e).2 : Int), .int .i64 (witE t e)]) h') : Ev fnG fastA (.fn 72 [] []) [v, .int .i64 e] h Q := by
  have ht0 := ht
  obtain ⟨E, L, P, rfl, aE, aL, aP⟩ := ht
  refine Ev_body (fd := c72) rfl rfl rfl ?_
  have s1 : h.Sub (h.add (.cells .rw [E, L, P])) := (by repeat (first | assumption | exact H.Sub.refl (by assumption) | refine H.Sub.add ?_ _ | refine H.Sub.set ?_ (by first | omega | (simp only [H.next_add, H.next_set, H.next_del] <;> omega)) (by first | omega | (simp only [H.next_add, H.next_set, H.next_del] <;> omega)) (by assumption) _))
  have g1 : (h.add (.cells .rw [E, L, P])).cells h.next = some [E, L, P] := cells_add_new rfl
  have bad : ∀ h', h.Sub h' → ∀ e1 : Int, e1 ≠ 0 → witE t e = e1 → Q (.tup [.int .i64 0, .int .i64 0, .int .i64 e1]) h' := fun h' s e1 he e2 => by
    have q' := q _ s
    have : witA t e = (0, 0) := by unfold witA; rw [e2, if_neg he]
    rw [this, e2] at q'; exact q'
  simp -implicitDefEqProofs (maxSteps := 999999) (disch := first | with_reducible rfl | omega | (simp only [nA, nS, nD] <;> omega) | fail) only [c72, go_sem]
  refine opened_use s1.wf (ht0.mono s1) _ (fun h5 s45 c => ?_) fun h5 d s15 c g hd => ?_
  · simp -implicitDefEqProofs (maxSteps := 999999) (disch := first | with_reducible rfl | omega | (simp only [nA, nS, nD] <;> omega) | fail) only [go_sem, ne_eq, c, not_false_eq_true]
    exact bad _ (s1.trans s45) _ c (by unfold witE; rw [if_pos c])
  have s5 := s1.trans s15
  simp -implicitDefEqProofs (maxSteps := 999999) (disch := first | with_reducible rfl | omega | (simp only [nA, nS, nD] <;> omega) | fail) only [go_sem, ne_eq, not_true_eq_false, s15.cells g1]
  refine eye_ev s15.wf (ht0.mono s5) e _ fun h6 s6 => ?_
  have s16 := s5.trans s6
  cases ce : isEy t e
  · simp -implicitDefEqProofs (maxSteps := 999999) (disch := first | with_reducible rfl | omega | (simp only [nA, nS, nD] <;> omega) | fail) only [go_sem, Bool.not_false]
    exact bad _ s16 1 (by decide) (by unfold witE; rw [if_neg (by simp [c]), if_pos ce])
  simp -implicitDefEqProofs (maxSteps := 999999) (disch := first | with_reducible rfl | omega | (simp only [nA, nS, nD] <;> omega) | fail) only [go_sem, Bool.not_true]
  refine witness_ev s6.wf (hd.mono s6) g e _ fun h7 s7 => ?_
  have s17 := s16.trans s7
  cases hw1 : wit t e with
  | none =>
    simp -implicitDefEqProofs (maxSteps := 999999) (disch := first | with_reducible rfl | omega | (simp only [nA, nS, nD] <;> omega) | fail) only [go_sem, witV, Bool.not_false]
    exact bad _ s17 6 (by decide) (by unfold witE; rw [if_neg (by simp [c]), if_neg (by simp [ce]), hw1, if_pos (by rfl)])
  | some p =>
    have e0 : witE t e = 0 := by unfold witE; rw [if_neg (by simp [c]), if_neg (by simp [ce]), hw1, if_neg (by simp)]
    have ea : witA t e = p := by unfold witA; rw [if_pos e0, hw1]; rfl
    simp -implicitDefEqProofs (maxSteps := 999999) (disch := first | with_reducible rfl | omega | (simp only [nA, nS, nD] <;> omega) | fail) only [go_sem, witV, Bool.not_true]
    have q' := q _ s17
    rw [e0, ea] at q'; exact q'
def needK (t : Tb) : Nat → List Int
  | 0 => []
  | n + 1 => needK t n ++ if (wit t (n : Int)).isSome = true then [(n : Int)] else []
theorem needK_len (t : Tb) : ∀ n, (needK t n).length ≤ n
  | 0 => Nat.le_refl _
  | n + 1 => by have := needK_len t n; simp only [needK, List.length_append]; split <;> simp <;> omega
theorem mem_needK {t : Tb} {x : Int} : ∀ {n : Nat}, x ∈ needK t n ↔ 0 ≤ x ∧ x < (n : Int) ∧ (wit t x).isSome = true
  | 0 => by simp [needK]; omega
  | n + 1 => by
    simp only [needK, List.mem_append, mem_needK (n := n)]
    by_cases c : (wit t (n : Int)).isSome = true
    · rw [if_pos c, List.mem_singleton]
      constructor
      · rintro (⟨h1, h2, h3⟩ | rfl)
        · exact ⟨h1, by omega, h3⟩
        · exact ⟨by omega, by omega, c⟩
      · rintro ⟨h1, h2, h3⟩
        by_cases e : x = (n : Int)
        · exact .inr e
        · exact .inl ⟨h1, by omega, h3⟩
    · rw [if_neg c]
      constructor
      · rintro (⟨h1, h2, h3⟩ | h)
        · exact ⟨h1, by omega, h3⟩
        · cases h
      · rintro ⟨h1, h2, h3⟩
        by_cases e : x = (n : Int)
        · subst e; exact absurd h3 c
        · exact .inl ⟨h1, by omega, h3⟩
theorem Needed_ev {h : H} {v : V} {t : Tb} (hw : h.wf) (ht : TbIs h v t) (Q : V → H → Prop) (q : ∀ y h', h.Sub h' → SlAt h' y 1 ((if check t = 0 then needK t t.eyes.length else []).map encI) → Q (.tup [y, .int .i64 (check t)]) h') : Ev fnG fastA (.fn 69 [] []) [v] h Q := by
  have ht0 := ht
  obtain ⟨E, L, P, rfl, aE, aL, aP⟩ := ht
  refine Ev_body (fd := c69) rfl rfl rfl ?_
  have s1 : h.Sub (h.add (.cells .rw [E, L, P])) := (by repeat (first | assumption | exact H.Sub.refl (by assumption) | refine H.Sub.add ?_ _ | refine H.Sub.set ?_ (by first | omega | (simp only [H.next_add, H.next_set, H.next_del] <;> omega)) (by first | omega | (simp only [H.next_add, H.next_set, H.next_del] <;> omega)) (by assumption) _))
  have g1 : (h.add (.cells .rw [E, L, P])).cells h.next = some [E, L, P] := cells_add_new rfl
  simp -implicitDefEqProofs (maxSteps := 999999) (disch := first | with_reducible rfl | omega | (simp only [nA, nS, nD] <;> omega) | fail) only [c69, go_sem]
  refine opened_use s1.wf (ht0.mono s1) _ (fun h5 s45 c => ?_) fun h5 d s15 c g hd => ?_
  · simp -implicitDefEqProofs (maxSteps := 999999) (disch := first | with_reducible rfl | omega | (simp only [nA, nS, nD] <;> omega) | fail) only [go_sem, ne_eq, c, not_false_eq_true]
    exact q _ _ (s1.trans s45) (by rw [if_neg c]; exact (OwnSl.nil s45 1).sl (by simp))
  have s5 := s1.trans s15
  have ge := g.eyes
  have hlE := aE.lenE
  rw [c, if_pos rfl] at q
  simp -implicitDefEqProofs (maxSteps := 999999) (disch := first | with_reducible rfl | omega | (simp only [nA, nS, nD] <;> omega) | fail) only [go_sem, ne_eq, not_true_eq_false, s15.cells g1, hlE]
  refine W_count t.eyes.length (fun i s => ∃ tm h' y, s = ⟨tm, h', []⟩ ∧ OwnSl h5 h' y 1 ((needK t i).map encI) ∧ (Opd.t 4).ev tm = .ptr d 0 ∧ (Opd.t 6).ev tm = y ∧ (Opd.t 21).ev tm = .int .i64 (t.eyes.length : Int) ∧ (Opd.t 22).ev tm = .int .i64 (i : Int))
    ?_ ?_ (i := 0) (Nat.zero_le _) ⟨_, _, .nils, rfl, OwnSl.nil (H.Sub.refl s15.wf) 1, (by simp [ev_c, ev_put] <;> rfl), (by simp [ev_c, ev_put] <;> rfl), (by simp [ev_c, ev_put] <;> rfl), (by simp [ev_c, ev_put] <;> rfl)⟩
  · rintro i s hi ⟨tm, h', y, rfl, oy, t4, t6, t21, t22⟩
    have hi' : (i : Int) < (t.eyes.length : Int) := by omega
    have hs := oy.1
    have hl := needK_len t i
    simp -implicitDefEqProofs (maxSteps := 999999) (disch := first | with_reducible rfl | omega | (simp only [nA, nS, nD] <;> omega) | fail) only [go_sem, t4, t6, t21, t22, hi']
    refine witness_ev hs.wf (hd.mono hs) g (i : Int) _ fun h6 s6 => ?_
    cases hw1 : wit t (i : Int) with
    | none =>
      have e1 : needK t (i + 1) = needK t i := by simp [needK, hw1]
      simp -implicitDefEqProofs (maxSteps := 999999) (disch := first | with_reducible rfl | omega | (simp only [nA, nS, nD] <;> omega) | fail) only [go_sem, t4, t6, t21, t22, witV, wr_succ]
      exact ⟨_, _, y, rfl, by rw [e1]; exact oy.mono s6, (by simp [ev_c, ev_put, t4] <;> rfl), (by simp [ev_c, ev_put, t6] <;> rfl), (by simp [ev_c, ev_put, t21] <;> rfl), (by simp [ev_c, ev_put] <;> rfl)⟩
    | some p =>
      have e1 : needK t (i + 1) = needK t i ++ [(i : Int)] := by simp [needK, hw1]
      have sC := (H.Sub.refl s6.wf).add (.cells .rw [.int .i64 (i : Int)])
      simp -implicitDefEqProofs (maxSteps := 999999) (disch := first | with_reducible rfl | omega | (simp only [nA, nS, nD] <;> omega) | fail) only [go_sem, t4, t6, t21, t22, witV]
      refine ((oy.mono s6).mono sC).app1 (by_ := 8) (r := encI (i : Int)) s15.wf rfl (by omega) own1_lit rfl (by simp only [List.length_map]; omega) (by simp only [List.length_map]; omega) fun h9 o9 k9 n9 => ?_
      rw [H.next_add, List.length_map] at o9
      simp -implicitDefEqProofs (maxSteps := 999999) (disch := first | with_reducible rfl | omega | (simp only [nA, nS, nD] <;> omega) | fail) only [go_sem, t4, t6, t21, t22, wr_succ]
      exact ⟨_, _, _, rfl, by rw [e1, List.map_append]; exact o9, (by simp [ev_c, ev_put, t4] <;> rfl), (by simp [ev_c, ev_put] <;> rfl), (by simp [ev_c, ev_put, t21] <;> rfl), (by simp [ev_c, ev_put] <;> rfl)⟩
  · rintro s ⟨tm, h', y, rfl, oy, t4, t6, t21, t22⟩
    have hl := needK_len t t.eyes.length
    simp -implicitDefEqProofs (maxSteps := 999999) (disch := first | with_reducible rfl | omega | (simp only [nA, nS, nD] <;> omega) | fail) only [go_sem, t4, t6, t21, t22, Int.lt_irrefl]
    exact q y _ (s5.trans oy.1) (oy.sl (by simp only [List.length_map]; omega))
end Go.Ab.Try
set_option linter.unusedSimpArgs false
set_option linter.unusedVariables false
namespace Go.Ab
noncomputable def slcM (h : H) (sz : Nat) (x lo hi mx : V) : Option V := q_slc .nil h sz x (some (.c lo)) (some (.c hi)) (some (.c mx))
theorem q_slc_m (tm : T V) (h : H) (sz : Nat) (x : V) (lo hi mx : Opd) : q_slc tm h sz x (some lo) (some hi) (some mx) = slcM h sz x (lo.ev tm) (hi.ev tm) (mx.ev tm) := rfl
noncomputable def slcB (h : H) (sz : Nat) (x lo hi : V) : Option V := q_slc .nil h sz x (some (.c lo)) (some (.c hi)) none
theorem q_slc_b (tm : T V) (h : H) (sz : Nat) (x : V) (lo hi : Opd) : q_slc tm h sz x (some lo) (some hi) none = slcB h sz x (lo.ev tm) (hi.ev tm) := rfl
theorem bsel_same (b : Bool) (n : Nat) : bsel b n n = n := by cases b <;> rfl
theorem fix_M {h : H} {sz a n c i j m : Nat} (h1 : i ≤ j) (h2 : j ≤ m) (h3 : m ≤ c) : ∃ o k c', slcM h sz (.sl a 0 n (.fix c)) (.int .i64 (i : Int)) (.int .i64 (j : Int)) (.int .i64 (m : Int)) = some (.sl a o k c') := by
  have hi : ∀ (k : Nat) (tm : T V), (Opd.c (.int .i64 (k : Int))).ev tm = .int .i64 (k : Int) := fun _ _ => rfl
  have e1 : Nat.ble i j = true := by simp; exact h1
  have e2 : Nat.ble j m = true := by simp; exact h2
  have e3 : Nat.ble m c = true := by simp; exact h3
  exact ⟨bsel (Nat.beq m i) 0 (0 + i * sz), j - i, .fix (m - i), by simp only [slcM, q_slc, bnd3, natO, hi, natk_cst, bnds, e1, e2, e3, og_true, subO, sub]⟩
theorem fix_to {h : H} {sz a n c i : Nat} (h1 : i ≤ n) (h2 : n ≤ c) : slcTo h sz (.sl a 0 n (.fix c)) (.int .i64 (i : Int)) = some (.sl a 0 i (.fix c)) := by
  simp only [slcTo, q_slc]
  rw [subO_to (kd := .i64) (k := i) rfl h1 h2, Nat.zero_mul, bsel_same]
theorem fix_from {h : H} {sz a n c i : Nat} (h1 : i ≤ n) (h2 : n ≤ c) : ∃ o, slcFrom h sz (.sl a 0 n (.fix c)) (.int .i64 (i : Int)) = some (.sl a o (n - i) (.fix (c - i))) ∧ (i < c → o = i * sz) := by
  have hi : ∀ (tm : T V), (Opd.c (.int .i64 (i : Int))).ev tm = .int .i64 (i : Int) := fun _ => rfl
  have e1 : Nat.ble i n = true := by simp; exact h1
  have e2 : Nat.ble n c = true := by simp; exact h2
  have e3 : Nat.ble c c = true := by simp
  refine ⟨bsel (Nat.beq c i) 0 (0 + i * sz), by simp only [slcFrom, q_slc, bnd3, natO, hi, natk_cst, bnds, e1, e2, e3, og_true, subO, sub], fun hlt => ?_⟩
  have : Nat.beq c i = false := by
    cases hb : Nat.beq c i with
    | false => rfl
    | true => have := Nat.eq_of_beq_eq_true hb; omega
  rw [this]; simp [bsel]
theorem fix_B {h : H} {sz a n c i j : Nat} (h1 : i ≤ j) (h2 : j ≤ c) (h3 : i < c) : slcB h sz (.sl a 0 n (.fix c)) (.int .i64 (i : Int)) (.int .i64 (j : Int)) = some (.sl a (i * sz) (j - i) (.fix (c - i))) := by
  have hi : ∀ (k : Nat) (tm : T V), (Opd.c (.int .i64 (k : Int))).ev tm = .int .i64 (k : Int) := fun _ _ => rfl
  have e1 : Nat.ble i j = true := by simp; exact h1
  have e2 : Nat.ble j c = true := by simp; exact h2
  have e3 : Nat.ble c c = true := by simp
  have e4 : Nat.beq c i = false := by
    cases hb : Nat.beq c i with
    | false => rfl
    | true => have := Nat.eq_of_beq_eq_true hb; omega
  simp only [slcB, q_slc, bnd3, natO, hi, natk_cst, bnds, e1, e2, e3, og_true, subO, sub, e4, bsel, Nat.zero_add]
namespace Try
open Go.Ab.Silk (Inc lexlt IsMin)
set_option maxHeartbeats 1000000 in
theorem deleteEye_ev {h : H} {a i : Nat} {rows : List (List V)} (hw : h.wf) (hg : h.get a = some (.cells .rw rows.flatten)) (hr : ∀ r ∈ rows, r.length = 4) (ho : allOne rows.flatten = true) (hi : i < rows.length) (hl : rows.length ≤ 1000) (Q : V → H → Prop)
    (q : ∀ h', Keeps (fun c => c = a) h h' → h'.wf → SlAt h' (.sl a 0 (rows.length - 1) (.fix rows.length)) 4 (rows.eraseIdx i) → Q (.sl a 0 (rows.length - 1) (.fix rows.length)) h') :
    Ev fnG fastA (.fn 74 [] []) [.sl a 0 rows.length (.fix rows.length), .int .i64 (i : Int), .int .i64 ((i + 1 : Nat) : Int)] h Q := by
  obtain ⟨n, hn⟩ : ∃ n, rows.length = n + 1 := ⟨rows.length - 1, by omega⟩
  obtain ⟨oM, kM, cM, fM⟩ := fix_M (h := h) (sz := 4) (a := a) (n := rows.length) (c := rows.length) (i := i) (j := i + 1) (m := rows.length) (by omega) (by omega) (Nat.le_refl _)
  have fT := fun h => fix_to (h := h) (sz := 4) (a := a) (n := rows.length) (c := rows.length) (i := i) (by omega) (Nat.le_refl _)
  obtain ⟨oF, fF, hoF⟩ := fix_from (h := h) (sz := 4) (a := a) (n := rows.length) (c := rows.length) (i := i + 1) (by omega) (Nat.le_refl _)
  have fF' : ∀ h, slcFrom h 4 (.sl a 0 rows.length (.fix rows.length)) (.int .i64 ((i + 1 : Nat) : Int)) = some (.sl a oF (rows.length - (i + 1)) (.fix (rows.length - (i + 1)))) := fun h => fF
  have fB := fun h => fix_B (h := h) (sz := 4) (a := a) (n := rows.length - 1) (c := rows.length) (i := rows.length - 1) (j := rows.length) (by omega) (Nat.le_refl _) (by omega)
  have fl := flatten_len hr
  have hrd : ∀ r ∈ rows.drop (i + 1), r.length = 4 := fun r h => hr r (List.mem_of_mem_drop h)
  have hrt : ∀ r ∈ rows.take i, r.length = 4 := fun r h => hr r (List.mem_of_mem_take h)
  have fld := flatten_len hrd
  have flt := flatten_len hrt
  rw [List.length_drop] at fld
  rw [List.length_take, Nat.min_eq_left (by omega)] at flt
  -- the block: what is before, the row, what is behind
  have esp : rows.flatten = (rows.take i).flatten ++ (rows[i] ++ (rows.drop (i + 1)).flatten) := by
    have e : rows = rows.take i ++ rows[i] :: rows.drop (i + 1) := by rw [← List.drop_eq_getElem_cons hi, List.take_append_drop]
    conv => lhs; rw [e]
    rw [List.flatten_append, List.flatten_cons]
  have hri := hr _ (List.getElem_mem hi)
  have hod : allOne (rows.drop (i + 1)).flatten = true := by
    rw [allOne_eq] at ho ⊢
    intro v hv
    exact ho v (by rw [esp]; simp [hv])
  -- the append
  obtain ⟨rest, hS, hrest, gS, kS, wS, happ⟩ : ∃ (rest : List V) (hS : H), rest.length = 4 ∧ hS.get a = some (.cells .rw ((rows.take i).flatten ++ (rows.drop (i + 1)).flatten ++ rest)) ∧ Keeps (fun c => c = a) h hS ∧ hS.wf ∧ e_app' h 4 32 (.sl a 0 i (.fix rows.length)) (.sl a oF (rows.length - (i + 1)) (.fix (rows.length - (i + 1)))) = some (.sl a 0 (rows.length - 1) (.fix rows.length), hS) := by
    cases hk : rows.length - (i + 1) with
    | zero =>
      have e0 : rows.drop (i + 1) = [] := List.drop_eq_nil_of_le (by omega)
      refine ⟨rows[i], h, hri, by rw [hg, esp, e0]; simp, Keeps.refl _ _, hw, ?_⟩
      rw [e_app_eq, elems_0, lenV_sl]
      simp only [ob_some]
      rw [e_app_fix0]
      have e2 : Nat.ble i rows.length = true := by simp; omega
      have e3 : i = rows.length - 1 := by omega
      rw [e2, og_true, ← e3]
    | succ k =>
      have hlt : i + 1 < rows.length := by omega
      have eo := hoF hlt
      have hel : elems h 4 (.sl a oF (k + 1) (.fix (k + 1))) = some (rows.drop (i + 1)).flatten := by
        rw [elems_s, cells_of hg, elC_some, eo]
        refine getN_eq.2 ⟨?_, by rw [fl]; omega⟩
        have e : rows.flatten = ((rows.take i).flatten ++ rows[i]) ++ (rows.drop (i + 1)).flatten := by rw [esp]; simp
        rw [e, List.drop_left' (by rw [List.length_append, flt, hri]; omega), ← hk, ← fld, List.take_length]
      obtain ⟨v, vs, hv⟩ : ∃ v vs, (rows.drop (i + 1)).flatten = v :: vs := by
        cases e : (rows.drop (i + 1)).flatten with
        | nil => rw [e] at fld; simp at fld; omega
        | cons v vs => exact ⟨v, vs, rfl⟩
      have htail : ∃ tl rest : List V, rows[i] ++ (rows.drop (i + 1)).flatten = tl ++ rest ∧ tl.length = (rows.drop (i + 1)).flatten.length ∧ rest.length = 4 :=
        ⟨(rows[i] ++ (rows.drop (i + 1)).flatten).take (rows.drop (i + 1)).flatten.length, (rows[i] ++ (rows.drop (i + 1)).flatten).drop (rows.drop (i + 1)).flatten.length, (List.take_append_drop _ _).symm, by rw [List.length_take, List.length_append]; omega, by rw [List.length_drop, List.length_append, hri]; omega⟩
      obtain ⟨tl, rest, et, htl, hrest⟩ := htail
      refine ⟨rest, h.set a (.cells .rw ((rows.take i).flatten ++ (rows.drop (i + 1)).flatten ++ rest)), hrest, get_set_same rfl, Keeps.set h a _, H.wf_set hw _ hg, ?_⟩
      have hp : putN (0 + i * 4) (rows.drop (i + 1)).flatten rows.flatten = some ((rows.take i).flatten ++ (rows.drop (i + 1)).flatten ++ rest) := by
        have := putN_app (pre := (rows.take i).flatten) (new := (rows.drop (i + 1)).flatten) (old := tl) (rest := rest) htl.symm
        rw [flt, List.append_assoc, ← et, ← esp] at this
        rw [Nat.zero_add]; exact this
      rw [e_app_eq, hel, lenV_sl]
      simp only [ob_some]
      rw [e_app_fix (by omega)]
      rw [hv] at hp hod ⊢
      rw [H.put_rw hod hg hp, withV_some]
      have : i + (k + 1) = rows.length - 1 := by omega
      rw [this]
  have hne : decide ((i : Int) = ((i + 1 : Nat) : Int)) = false := decide_eq_false (by omega)
  refine Ev_body (fd := c74) rfl rfl rfl ?_
  have el : (rows.take i ++ rows.drop (i + 1)).length = rows.length - 1 := by rw [List.length_append, List.length_take, List.length_drop]; omega
  have hle : ((rows.take i).flatten ++ (rows.drop (i + 1)).flatten).length = (rows.length - 1) * 4 := by rw [List.length_append, flt, fld]; omega
  have hclr : e_clr hS [.int .i64 0, .int .i64 0, .int .i64 0, .int .i64 0] (.sl a ((rows.length - 1) * 4) (rows.length - (rows.length - 1)) (.fix (rows.length - (rows.length - 1)))) = some (.und, hS.set a (.cells .rw ((rows.take i).flatten ++ (rows.drop (i + 1)).flatten ++ [.int .i64 0, .int .i64 0, .int .i64 0, .int .i64 0]))) := by
    rw [e_clr_sl, show rows.length - (rows.length - 1) = 1 by omega]
    have hp : putN ((rows.length - 1) * 4) [V.int .i64 0, .int .i64 0, .int .i64 0, .int .i64 0] ((rows.take i).flatten ++ (rows.drop (i + 1)).flatten ++ rest) = some ((rows.take i).flatten ++ (rows.drop (i + 1)).flatten ++ [.int .i64 0, .int .i64 0, .int .i64 0, .int .i64 0]) := by
      have := putN_app (pre := (rows.take i).flatten ++ (rows.drop (i + 1)).flatten) (new := [V.int .i64 0, .int .i64 0, .int .i64 0, .int .i64 0]) (old := rest) (rest := []) hrest.symm
      rw [hle, List.append_nil, List.append_nil] at this
      exact this
    have hrp : repN 1 [V.int .i64 0, .int .i64 0, .int .i64 0, .int .i64 0] = [V.int .i64 0, .int .i64 0, .int .i64 0, .int .i64 0] := rfl
    rw [hrp, H.put_rw rfl gS hp, withV_some]
  have lx : ∀ m, q_len (.sl a 0 m (.fix rows.length)) = some (.int .i64 (m : Int)) := fun m => rfl
  simp -implicitDefEqProofs (maxSteps := 999999) (disch := first | with_reducible rfl | omega | (simp only [nA, nS, nD] <;> omega) | fail) only [c74, go_sem, lx, q_slc_m, fM, hne, q_slc_to, fT, q_slc_from, fF', evQ_slc, happ]
  simp -implicitDefEqProofs (maxSteps := 999999) (disch := first | with_reducible rfl | omega | (simp only [nA, nS, nD] <;> omega) | fail) only [go_sem, lx, q_slc_b, fB, WI_clr, hclr]
  refine q _ ((kS.trans (Keeps.set hS a _)).mono fun c h => h.elim id id) (H.wf_set wS _ gS) ⟨fun r hr' => hr r (List.mem_of_mem_eraseIdx hr'), by rw [List.length_eraseIdx_of_lt hi]; omega, .inr ⟨a, 0, _, _, by rw [List.length_eraseIdx_of_lt hi], .inr (cells_of (get_set_same rfl)), getN_eq.2 ⟨?_, ?_⟩⟩⟩
  · rw [List.eraseIdx_eq_take_drop_succ, el, List.drop_zero, List.flatten_append, ← hle, List.take_left']
    rfl
  · rw [List.eraseIdx_eq_take_drop_succ, el, List.length_append, hle]; omega
end Try
end Go.Ab
set_option linter.unusedSimpArgs false
set_option linter.unusedVariables false
namespace Go.Ab.Try
open Go.Ab.Silk (Inc lexlt IsMin)
theorem mem_tellK {t : Tb} {a b : Sd} {x : Int} : ∀ {n : Nat}, x ∈ tellK t a b n ↔ ∃ j : Nat, j < n ∧ x = (j : Int) ∧ tellsE t j a b = true
  | 0 => by simp [tellK]
  | n + 1 => by
    simp only [tellK, List.mem_append, mem_tellK (n := n)]
    by_cases c : tellsE t n a b = true
    · rw [if_pos c, List.mem_singleton]
      constructor
      · rintro (⟨j, h1, h2, h3⟩ | rfl)
        · exact ⟨j, by omega, h2, h3⟩
        · exact ⟨n, by omega, rfl, c⟩
      · rintro ⟨j, h1, rfl, h3⟩
        by_cases e : j = n
        · exact .inr (by rw [e])
        · exact .inl ⟨j, by omega, rfl, h3⟩
    · rw [if_neg c]
      constructor
      · rintro (⟨j, h1, h2, h3⟩ | h)
        · exact ⟨j, by omega, h2, h3⟩
        · cases h
      · rintro ⟨j, h1, rfl, h3⟩
        by_cases e : j = n
        · subst e; exact absurd h3 c
        · exact .inl ⟨j, by omega, rfl, h3⟩
theorem tellK_up (t : Tb) (a b : Sd) : ∀ n, (tellK t a b n).Pairwise (· < ·)
  | 0 => List.Pairwise.nil
  | n + 1 => by
    have ih := tellK_up t a b n
    simp only [tellK]
    rw [List.pairwise_append]
    refine ⟨ih, by split <;> simp, fun x hx y hy => ?_⟩
    have := tellK_mem hx
    split at hy
    · rw [List.mem_singleton] at hy; omega
    · cases hy
theorem one_iff {l : List Int} {e : Int} (h : l.Pairwise (· < ·)) : l = [e] ↔ ∀ x, x ∈ l ↔ x = e := by
  constructor
  · rintro rfl x; simp
  · intro hm
    match l, h, hm with
    | [], _, hm => exact absurd ((hm e).2 rfl) (by simp)
    | [a], _, hm => rw [(hm a).1 (by simp)]
    | a :: b :: l, h, hm =>
      have h1 := (hm a).1 (by simp)
      have h2 := (hm b).1 (by simp)
      rw [List.pairwise_cons] at h
      have := h.1 b (by simp); omega
theorem tellK_one {t : Tb} {a b : Sd} {i : Nat} (hi : i < t.eyes.length) : tellK t a b t.eyes.length = [(i : Int)] ↔ tellsE t i a b = true ∧ ∀ j, j < t.eyes.length → j ≠ i → tellsE t j a b = false := by
  rw [one_iff (tellK_up _ _ _ _)]
  constructor
  · intro hm
    obtain ⟨j, _, h1, h2⟩ := mem_tellK.1 ((hm (i : Int)).2 rfl)
    have : j = i := by omega
    subst this
    refine ⟨h2, fun k hk hne => ?_⟩
    cases hc : tellsE t k a b with
    | false => rfl
    | true =>
      have := (hm (k : Int)).1 (mem_tellK.2 ⟨k, hk, rfl, hc⟩)
      omega
  · rintro ⟨h1, h2⟩ x
    rw [mem_tellK]
    constructor
    · rintro ⟨j, hj, rfl, hc⟩
      by_cases e : j = i
      · rw [e]
      · rw [h2 j hj e] at hc; cases hc
    · rintro rfl
      exact ⟨i, hi, rfl, h1⟩
def woT (t : Tb) (i : Nat) : Tb := ⟨t.eyes.eraseIdx i, t.lights, t.pieces⟩
theorem woT_good {t : Tb} (g : Good t) {i : Nat} (hi : i < t.eyes.length) (h2 : t.eyes.length ≠ 1) : Good (woT t i) := by
  have ge := g.eyes
  have hl : (woT t i).eyes.length = t.eyes.length - 1 := List.length_eraseIdx_of_lt hi
  exact ⟨by rw [hl]; omega, g.lights, g.pieces, fun e he => g.eye e (List.mem_of_mem_eraseIdx he), g.light, g.piece⟩
theorem woT_tells {t : Tb} {i j : Nat} (a b : Sd) : tellsE (woT t i) j a b = tellsE t (if j < i then j else j + 1) a b := by
  unfold tellsE
  have e : ∀ k, tellsAt (woT t i) a b j k = tellsAt t a b (if j < i then j else j + 1) k := fun k => by
    unfold tellsAt
    have : (woT t i).eyes[j]? = t.eyes[if j < i then j else j + 1]? := by
      show (t.eyes.eraseIdx i)[j]? = _
      rw [List.getElem?_eraseIdx]
      split <;> rfl
    rw [this]; rfl
  simp only [e]; rfl
theorem woT_alike {t : Tb} (g : Good t) {i : Nat} (hi : i < t.eyes.length) (h2 : t.eyes.length ≠ 1) (a b : Sd) : alike (woT t i) a b = true ↔ ∀ j, j < t.eyes.length → j ≠ i → tellsE t j a b = false := by
  have hl : (woT t i).eyes.length = t.eyes.length - 1 := List.length_eraseIdx_of_lt hi
  rw [alike_all (woT_good g hi h2), List.all_eq_true]
  constructor
  · intro h j hj hne
    by_cases hlt : j < i
    · have := h j (List.mem_range.2 (by rw [hl]; omega))
      rw [woT_tells, if_pos hlt] at this
      simpa using this
    · have := h (j - 1) (List.mem_range.2 (by rw [hl]; omega))
      rw [woT_tells, if_neg (by omega), show j - 1 + 1 = j by omega] at this
      simpa using this
  · intro h j hj
    rw [List.mem_range, hl] at hj
    rw [woT_tells]
    split
    · rw [h j (by omega) (by omega)]; rfl
    · rw [h (j + 1) (by omega) (by omega)]; rfl
theorem wo_match {t : Tb} (g : Good t) {i p r : Nat} (hi : i < t.eyes.length) (h2 : t.eyes.length ≠ 1) (hp : p < t.pieces.length) (hr : r < t.pieces.length) :
    (matchB t p r = true → matchB (woT t i) p r = true) ∧ (matchB t p r = false → matchB (woT t i) p r = decide (tellP t p r = [(i : Int)])) := by
  have e1 : matchB t p r = alike t t.pieces[p] t.pieces[r] := by unfold matchB; rw [List.getElem?_eq_getElem hp, List.getElem?_eq_getElem hr]
  have e2 : matchB (woT t i) p r = alike (woT t i) t.pieces[p] t.pieces[r] := by
    unfold matchB
    have h1 : (woT t i).pieces[p]? = some t.pieces[p] := List.getElem?_eq_getElem hp
    have h2 : (woT t i).pieces[r]? = some t.pieces[r] := List.getElem?_eq_getElem hr
    rw [h1, h2]
  have e3 : tellP t p r = tellK t t.pieces[p] t.pieces[r] t.eyes.length := by unfold tellP; rw [List.getElem?_eq_getElem hp, List.getElem?_eq_getElem hr]
  rw [e1, e2, e3]
  constructor
  · intro h
    rw [woT_alike g hi h2]
    rw [alike_all g, List.all_eq_true] at h
    intro j hj _
    simpa using h j (List.mem_range.2 hj)
  · intro h
    rw [Bool.eq_iff_iff, woT_alike g hi h2, decide_eq_true_eq, tellK_one hi]
    constructor
    · intro hh
      refine ⟨Classical.byContradiction fun hc => ?_, hh⟩
      have : alike t t.pieces[p] t.pieces[r] = true := by
        rw [alike_all g, List.all_eq_true]
        intro j hj
        by_cases e : j = i
        · subst e; simpa using hc
        · rw [hh j (List.mem_range.1 hj) e]; rfl
      rw [h] at this; cases this
    · exact fun hh => hh.2
theorem need_in {t : Tb} {x : Int} {l : List Int} (h : (wit t x).isSome = true) (hl : enoughB t l = true) : x ∈ l := by
  obtain ⟨p, hp⟩ := Option.isSome_iff_exists.1 h
  obtain ⟨h1, h2, h3⟩ := wit_some hp
  obtain ⟨e, he, hel⟩ := enoughB_iff.1 hl p.2 p.1 h2 h1 (by rw [h3]; simp)
  rw [h3, List.mem_singleton] at he
  subst he; exact hel
theorem need_any {t : Tb} {l : List Int} {n : Nat} (hl : enoughB t l = true) : ((needK t n).any fun x => !(l.any fun r => decide (x = r))) = false := by
  rw [List.any_eq_false]
  intro x hx
  have := need_in (mem_needK.1 hx).2.2 hl
  have : (l.any fun r => decide (x = r)) = true := List.any_eq_true.2 ⟨x, this, by simp⟩
  rw [this]; simp
theorem need_has {t : Tb} {i : Nat} (hi : i < t.eyes.length) : ((needK t t.eyes.length).any fun r => decide ((i : Int) = r)) = (wit t (i : Int)).isSome := by
  rw [Bool.eq_iff_iff, List.any_eq_true]
  constructor
  · rintro ⟨x, hx, e⟩
    have e := of_decide_eq_true e
    subst e; exact (mem_needK.1 hx).2.2
  · intro h
    exact ⟨_, mem_needK.2 ⟨by omega, by omega, h⟩, by simp⟩
theorem inc_eyes {t : Tb} {l : List Int} (g : Good t) (inc : Inc t.eyes.length 0 l) : lstE t l = 0 ∧ enR t l = enoughB t l := by
  have e : lstE t l = 0 := by
    unfold lstE
    have h1 : l.all (isEy t) = true := List.all_eq_true.2 fun x hx => by have := inc.mem x hx; simp [isEy]; omega
    have h2 : decide (l.Pairwise (· < ·)) = true := decide_eq_true (Inc.pw inc)
    rw [if_neg (by simp [check_iff.2 g]), if_neg (by simp [h1]), if_neg (by rw [h2]; simp)]
  exact ⟨e, by unfold enR; rw [e]; simp⟩
end Go.Ab.Try
set_option linter.unusedSimpArgs false
set_option linter.unusedVariables false
namespace Go.Ab.Try
open Go.Ab.Silk (Inc lexlt IsMin)
def nav : List Bool → C → C
  | [], c => c
  | b :: p, .seq x y => match b with | true => nav p y | false => nav p x
  | b :: p, .cond _ x y => match b with | true => nav p y | false => nav p x
  | _ :: p, .block _ x => nav p x
  | _ :: p, .loop x => nav p x
  | _ :: p, .scope x => nav p x
  | _ :: _, c => c
theorem need1_ev {h : H} {b : Nat} {y : V} {l : List Int} (hb : h.cells b = some [y]) (hy : SlAt h y 1 (l.map encI)) (e : Int) : PureA h (.fn 70 [] [.ptr b 0]) [.int .i64 e] (.bool (!(l.any fun r => decide (e = r)))) := by
  intro h1 hs
  refine Ev.gen fun Q q => ?_
  refine Ev_body (fd := c70) rfl rfl rfl ?_
  simp -implicitDefEqProofs (maxSteps := 999999) (disch := first | with_reducible rfl | omega | (simp only [nA, nS, nD] <;> omega) | fail) only [c70, go_sem, hs.cells hb]
  refine hasInt_ev hs.wf (hy.mono hs) e _ fun h2 s2 => ?_
  simp -implicitDefEqProofs (maxSteps := 999999) (disch := first | with_reducible rfl | omega | (simp only [nA, nS, nD] <;> omega) | fail) only [go_sem]
  exact q _ _ ⟨rfl, s2⟩
theorem need2_ev {h : H} {b : Nat} {y : V} {l : List Int} (hb : h.cells b = some [y]) (hy : SlAt h y 1 (l.map encI)) (e : Int) : PureA h (.fn 71 [] [.ptr b 0]) [.int .i64 e] (.bool (!(l.any fun r => decide (e = r)))) := by
  intro h1 hs
  refine Ev.gen fun Q q => ?_
  refine Ev_body (fd := c71) rfl rfl rfl ?_
  simp -implicitDefEqProofs (maxSteps := 999999) (disch := first | with_reducible rfl | omega | (simp only [nA, nS, nD] <;> omega) | fail) only [c71, go_sem, hs.cells hb]
  refine hasInt_ev hs.wf (hy.mono hs) e _ fun h2 s2 => ?_
  simp -implicitDefEqProofs (maxSteps := 999999) (disch := first | with_reducible rfl | omega | (simp only [nA, nS, nD] <;> omega) | fail) only [go_sem]
  exact q _ _ ⟨rfl, s2⟩
set_option maxRecDepth 4000 in
set_option maxHeartbeats 8000000 in
theorem EyeNeeded_ev {h : H} {x y : V} {bs cs : List Int} (hw : h.wf) (hx : SlAt h x 1 (bs.map encU8)) (hy : SlAt h y 1 (cs.map encU8)) :
    Ev fnG fastA (.fn 11 [] []) [x, y] h (fun u _ => u = .bool true) := by
  refine Ev_body (fd := c11) rfl rfl rfl ?_
  simp -implicitDefEqProofs (maxSteps := 999999) (disch := first | with_reducible rfl | omega | (simp only [nA, nS, nD] <;> omega) | fail) only [c11, go_sem]
  refine Wound_ev hw hx _ fun h1 s1 sp1 n1 => ?_
  simp -implicitDefEqProofs (maxSteps := 999999) (disch := first | with_reducible rfl | omega | (simp only [nA, nS, nD] <;> omega) | fail) only [go_sem]
  refine Made_ev s1 hw hx (Nat.le_refl _) sp1 (by omega) (by omega) (by omega) (by omega) _ fun X Y Z t hM T g hp7 he6 hl4 hT m => ?_
  obtain ⟨sM, iM, pM⟩ := m.is g hw (by omega) (by omega)
  have x1 := OwnC.one m.ox.c
  have y1 := OwnC.one m.oy.c
  have z1 := OwnC.one m.oz.c
  simp -implicitDefEqProofs (maxSteps := 999999) (disch := first | with_reducible rfl | omega | (simp only [nA, nS, nD] <;> omega) | fail) only [go_sem, x1, y1, z1, cells_one x1, cells_one y1, cells_one z1]
  have nN : (hM.set h1.next (.cells .rw [X, Y, Z])).next = hM.next := H.next_set _ _ _
  generalize hM.set h1.next (.cells .rw [X, Y, Z]) = hN at sM iM pM nN ⊢
  have s2 := (H.Sub.refl sM.wf).add (.cells .rw [X, Y, Z])
  have g7 : (hN.add (.cells .rw [X, Y, Z])).cells hN.next = some [X, Y, Z] := cells_add_new rfl
  have i2 := iM.mono s2
  have sN2 := sM.trans s2
  generalize (hN.add (.cells .rw [X, Y, Z])) = h2 at s2 g7 i2 sN2 ⊢
  rw [nN] at g7
  generalize hM.next = b7 at g7 ⊢
  have c0 : check t = 0 := check_iff.2 g
  have nn : ∀ n : Int, decide (n ≠ n) = false := fun n => by simp
  obtain ⟨cf, hcf, mf⟩ := few_some t
  have gE := g.eyes
  have gP := g.pieces
  try simp -implicitDefEqProofs (maxSteps := 999999) (disch := first | with_reducible rfl | omega | (simp only [nA, nS, nD] <;> omega) | fail) only [go_sem, g7]
  refine Needed_ev s2.wf i2 _ fun y6 h3 s3 hy6 => ?_
  rw [c0, if_pos rfl] at hy6
  rw [c0]
  simp -implicitDefEqProofs (maxSteps := 999999) (disch := first | with_reducible rfl | omega | (simp only [nA, nS, nD] <;> omega) | fail) only [go_sem, s3.cells g7]
  refine Fewest_ev s3.wf (i2.mono s3) _ fun y8 h4 s4 hy8 _ => ?_
  have hy8 := hy8 cf c0 hcf
  have o8 := hy8.one
  rw [c0]
  have sA := (H.Sub.refl s4.wf).add (.cells .rw [y8])
  have g8 : (h4.add (.cells .rw [y8])).cells h4.next = some [y8] := cells_add_new rfl
  simp -implicitDefEqProofs (maxSteps := 999999) (disch := first | with_reducible rfl | omega | (simp only [nA, nS, nD] <;> omega) | fail) only [go_sem, nn, o8, cells_one o8]
  refine (containsFuncInt_ev (p := fun e => !(cf.any fun r => decide (e = r))) sA.wf ((hy6.mono s4).mono sA) fun e _ => need1_ev g8 (hy8.mono sA) e).mono fun u h5 hu => ?_
  obtain ⟨rfl, s5⟩ := hu
  rw [need_any mf.holds]
  have s25 := s3.trans (s4.trans (sA.trans s5))
  have g75 := s25.cells g7
  have i5 := i2.mono s25
  have hy5 := hy.mono (sN2.trans s25)
  have hn5 := hy6.mono (s4.trans (sA.trans s5))
  clear hy6 g8 sA s5 s4 s3 hy8
  simp -implicitDefEqProofs (maxSteps := 999999) (disch := first | with_reducible rfl | omega | (simp only [nA, nS, nD] <;> omega) | fail) only [go_sem]
  refine Wound_ev s25.wf hy5 _ fun h6 s6 sp6 n6 => ?_
  obtain ⟨_, _, _, e0, aE, aL, aP⟩ := id i5
  cases e0
  have lE := aE.lenE
  have lP := aP.lenE
  simp -implicitDefEqProofs (maxSteps := 999999) (disch := first | with_reducible rfl | omega | (simp only [nA, nS, nD] <;> omega) | fail) only [go_sem]
  have w5 := s25.wf
  refine W.mono (Q := fun x1 s => x1 = .ext 0 ∧ ∃ tm hh, s = ⟨tm, hh, []⟩ ∧ h5.Sub hh ∧ (Opd.t 5).ev tm = .ptr b7 0 ∧ (Opd.t 6).ev tm = y6)
   (W_count 6 (fun i s => ∃ tm hh T', s = ⟨tm, hh, []⟩ ∧ h5.Sub hh ∧ SpAt hh h5.next y T' ∧ 0 ≤ T' ∧ T' ≤ 10 * (i : Int) ∧ (Opd.t 5).ev tm = .ptr b7 0 ∧ (Opd.t 6).ev tm = y6 ∧ (Opd.t 10).ev tm = .ptr h5.next 0 ∧ (Opd.t 51).ev tm = .int .i64 (i : Int))
    ?_ ?_ (i := 0) (Nat.zero_le _) ⟨_, _, _, rfl, s6, sp6, by omega, by omega, (by simp [ev_c, ev_put] <;> rfl), (by simp [ev_c, ev_put] <;> rfl), (by simp [ev_c, ev_put] <;> rfl), (by simp [ev_c, ev_put] <;> rfl)⟩) fun x1 s hx1 => ?_
  · rintro i s hi ⟨tm, hh, T', rfl, sh, sp, T0, T1, t5, t6, t10, t51⟩
    have hi' : (i : Int) < 6 := by omega
    simp -implicitDefEqProofs (maxSteps := 999999) (disch := first | with_reducible rfl | omega | (simp only [nA, nS, nD] <;> omega) | fail) only [go_sem, t5, t6, t10, t51, hi', sh.cells g75, lE]
    refine some_ev sh w5 hy5 (Nat.le_refl _) sp (by omega) (by omega) _ fun l yl h8 inc s8 sp8 k8 al nyl => ?_
    have ol := al.one
    have hll := inc.len (by omega)
    obtain ⟨el1, el2⟩ := inc_eyes g inc
    have sA := (H.Sub.refl s8.wf).add (.cells .rw [yl])
    have g11 : (h8.add (.cells .rw [yl])).cells h8.next = some [yl] := cells_add_new rfl
    have s5A := s8.trans sA
    have gdA := s5A.cells g75
    simp -implicitDefEqProofs (maxSteps := 999999) (disch := first | with_reducible rfl | omega | (simp only [nA, nS, nD] <;> omega) | fail) only [go_sem, t5, t6, t10, t51, ol, cells_one ol]
    generalize h8.add (.cells .rw [yl]) = hA at sA g11 s5A gdA ⊢
    simp -implicitDefEqProofs (maxSteps := 999999) (disch := first | with_reducible rfl | omega | (simp only [nA, nS, nD] <;> omega) | fail) only [go_sem, t5, t6, t10, t51, gdA, g11]
    refine Enough_ev sA.wf (i5.mono s5A) (al.mono sA) (by omega) _ fun hB sB => ?_
    rw [el1, el2]
    have s5B := s5A.trans sB
    have spB := (sp8.mono sA).mono sB
    have e1 : T' + (t.eyes.length : Int) ≤ 10 * ((i + 1 : Nat) : Int) := by omega
    cases hen : enoughB t l with
    | false =>
      simp -implicitDefEqProofs (maxSteps := 999999) (disch := first | with_reducible rfl | omega | (simp only [nA, nS, nD] <;> omega) | fail) only [go_sem, t5, t6, t10, t51, nn, wr_succ]
      exact ⟨_, _, _, rfl, s5B, spB, by omega, e1, (by simp [ev_c, ev_put, t5] <;> rfl), (by simp [ev_c, ev_put, t6] <;> rfl), (by simp [ev_c, ev_put, t10] <;> rfl), (by simp [ev_c, ev_put] <;> rfl)⟩
    | true =>
      simp -implicitDefEqProofs (maxSteps := 999999) (disch := first | with_reducible rfl | omega | (simp only [nA, nS, nD] <;> omega) | fail) only [go_sem, t5, t6, t10, t51, nn]
      refine (containsFuncInt_ev (p := fun e => !(l.any fun r => decide (e = r))) sB.wf (hn5.mono s5B) fun e _ => need2_ev (sB.cells g11) ((al.mono sA).mono sB) e).mono fun u hC hu => ?_
      obtain ⟨rfl, sC⟩ := hu
      rw [need_any hen]
      simp -implicitDefEqProofs (maxSteps := 999999) (disch := first | with_reducible rfl | omega | (simp only [nA, nS, nD] <;> omega) | fail) only [go_sem, t5, t6, t10, t51, wr_succ]
      exact ⟨_, _, _, rfl, s5B.trans sC, spB.mono sC, by omega, e1, (by simp [ev_c, ev_put, t5] <;> rfl), (by simp [ev_c, ev_put, t6] <;> rfl), (by simp [ev_c, ev_put, t10] <;> rfl), (by simp [ev_c, ev_put] <;> rfl)⟩
  · rintro s ⟨tm, hh, T', rfl, sh, sp, T0, T1, t5, t6, t10, t51⟩
    have hnl : ¬ ((6 : Nat) : Int) < 6 := by omega
    simp -implicitDefEqProofs (maxSteps := 999999) (disch := first | with_reducible rfl | omega | (simp only [nA, nS, nD] <;> omega) | fail) only [go_sem, t5, t6, t10, t51, hnl]
    exact ⟨_, _, rfl, sh, (by simp [ev_c, ev_put, t5] <;> rfl), (by simp [ev_c, ev_put, t6] <;> rfl)⟩
  obtain ⟨rfl, tm, h7, rfl, s7, t5, t6⟩ := hx1
  have d00 : decide ((0 : Int) = 0) = true := rfl
  have d60 : decide ((6 : Int) = 0) = false := rfl
  have d66 : decide ((6 : Int) ≠ 6) = false := rfl
  have d60n : decide ((6 : Int) ≠ 0) = true := rfl
  simp -implicitDefEqProofs (maxSteps := 999999) (disch := first | with_reducible rfl | omega | (simp only [nA, nS, nD] <;> omega) | fail) only [go_sem, t5, t6, s7.cells g75, lE]
  refine W_count t.eyes.length (fun i s => ∃ tm hh, s = ⟨tm, hh, []⟩ ∧ h5.Sub hh ∧ (Opd.t 5).ev tm = .ptr b7 0 ∧ (Opd.t 6).ev tm = y6 ∧ (Opd.t 77).ev tm = .int .i64 (t.eyes.length : Int) ∧ (Opd.t 78).ev tm = .int .i64 (i : Int))
    ?_ ?_ (i := 0) (Nat.zero_le _) ⟨_, _, rfl, s7, (by simp [ev_c, ev_put, t5] <;> rfl), (by simp [ev_c, ev_put, t6] <;> rfl), (by simp [ev_c, ev_put] <;> rfl), (by simp [ev_c, ev_put] <;> rfl)⟩
  · clear t5 t6
    rintro i s hi ⟨tm, hh, rfl, sh, t5, t6, t77, t78⟩
    have hi' : (i : Int) < (t.eyes.length : Int) := by omega
    have ie : isEy t (i : Int) = true := by simp [isEy]; omega
    simp -implicitDefEqProofs (maxSteps := 999999) (disch := first | with_reducible rfl | omega | (simp only [nA, nS, nD] <;> omega) | fail) only [go_sem, t5, t6, t77, t78, hi', sh.cells g75]
    refine Witness_ev sh.wf (i5.mono sh) (i : Int) _ fun h8 s8 => ?_
    have s58 := sh.trans s8
    have gd8 := s58.cells g75
    have wE : witE t (i : Int) = if (wit t (i : Int)).isSome = false then 6 else 0 := by unfold witE; rw [if_neg (by simp [c0]), if_neg (by simp [ie])]
    obtain ⟨P, hP⟩ : ∃ P : C, nav [true, true, true, true, true, true, true, false, true, true, true, true, true, false, true, true, true, true, true] c11.body = P := ⟨_, rfl⟩
    have tail : ∀ (tm : Go.Ab.T V) (hh : H), h5.Sub hh → (Opd.t 5).ev tm = .ptr b7 0 → (Opd.t 6).ev tm = y6 → (Opd.t 14).ev tm = .int .i64 (i : Int) → (Opd.t 77).ev tm = .int .i64 (t.eyes.length : Int) → (Opd.t 78).ev tm = .int .i64 (i : Int) →
        W fnG fastA 215 11 none P ⟨tm, hh, []⟩ fun x s => (x = .nrm ∨ x = .ext 3) ∧ ∃ tm hh, s = ⟨tm, hh, []⟩ ∧ h5.Sub hh ∧ (Opd.t 5).ev tm = .ptr b7 0 ∧ (Opd.t 6).ev tm = y6 ∧ (Opd.t 77).ev tm = .int .i64 (t.eyes.length : Int) ∧ (Opd.t 78).ev tm = .int .i64 (i : Int) := by
      clear t5 t6 t77 t78 sh
      intro tm hh sh t5 t6 t14 t77 t78
      subst hP
      by_cases h1 : t.eyes.length = 1
      · have dE : decide ((t.eyes.length : Int) = 1) = true := decide_eq_true (by omega)
        simp -implicitDefEqProofs (maxSteps := 999999) (disch := first | with_reducible rfl | omega | (simp only [nA, nS, nD] <;> omega) | fail) only [nav, c11, go_sem, t5, t6, t14, t77, t78, sh.cells g75, lE, dE]
        exact ⟨by first | exact .inr rfl | simp, _, _, rfl, sh, (by simp [ev_c, ev_put, t5] <;> rfl), (by simp [ev_c, ev_put, t6] <;> rfl), (by simp [ev_c, ev_put, t77] <;> rfl), (by simp [ev_c, ev_put, t78] <;> rfl)⟩
      have dE : decide ((t.eyes.length : Int) = 1) = false := decide_eq_false (by omega)
      have gL := g.lights
      have hsm : Small t := ⟨by omega, by omega, by omega⟩
      simp -implicitDefEqProofs (maxSteps := 999999) (disch := first | with_reducible rfl | omega | (simp only [nA, nS, nD] <;> omega) | fail) only [nav, c11, go_sem, t5, t6, t14, t77, t78, sh.cells g75, lE, dE]
      refine own_ev sh.wf (i5.mono sh) hsm _ fun u h8 s8 hu => ?_
      obtain ⟨a, b, c, rfl, ⟨a1, a2⟩, ⟨b1, b2⟩, ⟨c1, c2⟩, ⟨ab, ac, bc⟩, ga, gb, gc⟩ := hu
      have sB := (H.Sub.refl s8.wf).add (.cells .rw [.sl a 0 t.eyes.length (.fix t.eyes.length), .sl b 0 t.lights.length (.fix t.lights.length), .sl c 0 t.pieces.length (.fix t.pieces.length)])
      have gB : (h8.add (.cells .rw [.sl a 0 t.eyes.length (.fix t.eyes.length), .sl b 0 t.lights.length (.fix t.lights.length), .sl c 0 t.pieces.length (.fix t.pieces.length)])).get h8.next = some (.cells .rw [.sl a 0 t.eyes.length (.fix t.eyes.length), .sl b 0 t.lights.length (.fix t.lights.length), .sl c 0 t.pieces.length (.fix t.pieces.length)]) := get_add_new rfl
      have gaB := sB.get ga
      have gbB := sB.get gb
      have gcB := sB.get gc
      simp -implicitDefEqProofs (maxSteps := 999999) (disch := first | with_reducible rfl | omega | (simp only [nA, nS, nD] <;> omega) | fail) only [go_sem, t5, t6, t14, t77, t78]
      generalize h8.add (.cells .rw [.sl a 0 t.eyes.length (.fix t.eyes.length), .sl b 0 t.lights.length (.fix t.lights.length), .sl c 0 t.pieces.length (.fix t.pieces.length)]) = hB at sB gB gaB gbB gcB ⊢
      have w1 : wr .i64 ((i : Int) + 1) = ((i + 1 : Nat) : Int) := wr_succ (by omega)
      have hrows : ∀ r ∈ t.eyes.map encE, r.length = 4 := fun r hr => by obtain ⟨e, _, rfl⟩ := List.mem_map.1 hr; rfl
      have hone : allOne (t.eyes.map encE).flatten = true := by
        rw [allOne_eq]
        intro v hv
        obtain ⟨r, hr, hv⟩ := List.mem_flatten.1 hv
        obtain ⟨e, _, rfl⟩ := List.mem_map.1 hr
        simp only [encE, List.mem_cons, List.not_mem_nil, or_false] at hv
        rcases hv with rfl | rfl | rfl | rfl <;> rfl
      have hdel := fun Q q => deleteEye_ev (h := hB) (a := a) (i := i) (rows := t.eyes.map encE) sB.wf gaB hrows hone (by rw [List.length_map]; exact hi) (by rw [List.length_map]; omega) Q q
      simp only [List.length_map] at hdel
      try simp -implicitDefEqProofs (maxSteps := 999999) (disch := first | with_reducible rfl | omega | (simp only [nA, nS, nD] <;> omega) | fail) only [go_sem, t5, t6, t14, t77, t78, cells_of gB, w1]
      refine hdel _ fun h9 k9 w9 sE => ?_
      have gB9 := k9.2 _ _ gB (by omega)
      have kC := Keeps.set h9 h8.next (.cells .rw [.sl a 0 (t.eyes.length - 1) (.fix t.eyes.length), .sl b 0 t.lights.length (.fix t.lights.length), .sl c 0 t.pieces.length (.fix t.pieces.length)])
      have wC := H.wf_set w9 (.cells .rw [.sl a 0 (t.eyes.length - 1) (.fix t.eyes.length), .sl b 0 t.lights.length (.fix t.lights.length), .sl c 0 t.pieces.length (.fix t.pieces.length)]) gB9
      have gC : (h9.set h8.next (.cells .rw [.sl a 0 (t.eyes.length - 1) (.fix t.eyes.length), .sl b 0 t.lights.length (.fix t.lights.length), .sl c 0 t.pieces.length (.fix t.pieces.length)])).cells h8.next = some [.sl a 0 (t.eyes.length - 1) (.fix t.eyes.length), .sl b 0 t.lights.length (.fix t.lights.length), .sl c 0 t.pieces.length (.fix t.pieces.length)] := cells_of (get_set_same rfl)
      have sC : h5.Sub (h9.set h8.next (.cells .rw [.sl a 0 (t.eyes.length - 1) (.fix t.eyes.length), .sl b 0 t.lights.length (.fix t.lights.length), .sl c 0 t.pieces.length (.fix t.pieces.length)])) := (k9.trans kC).sub (sh.trans (s8.trans sB)) w5 (fun c hc => by
        have := sh.next
        have := s8.next
        rcases hc with hc | hc <;> omega) wC
      have iW : TbIs (h9.set h8.next (.cells .rw [.sl a 0 (t.eyes.length - 1) (.fix t.eyes.length), .sl b 0 t.lights.length (.fix t.lights.length), .sl c 0 t.pieces.length (.fix t.pieces.length)])) (.agg [.sl a 0 (t.eyes.length - 1) (.fix t.eyes.length), .sl b 0 t.lights.length (.fix t.lights.length), .sl c 0 t.pieces.length (.fix t.pieces.length)]) (woT t i) := by
        refine ⟨_, _, _, rfl, ?_, ?_, ?_⟩
        · have : ((woT t i).eyes.map encE) = (t.eyes.map encE).eraseIdx i := by
            show (t.eyes.eraseIdx i).map encE = _
            rw [List.eraseIdx_eq_take_drop_succ, List.eraseIdx_eq_take_drop_succ, List.map_append, List.map_take, List.map_drop]
          rw [this]
          exact SlAt_keep2 sE kC fun _ c hc e => by have := fresh hc; omega
        · exact SlAt.full (by simp [woT]) (kC.2 _ _ (k9.2 _ _ gbB (by omega)) (by omega)) (fun r hr => by obtain ⟨e, _, rfl⟩ := List.mem_map.1 hr; rfl) (by simp [woT]; omega)
        · exact SlAt.full (by simp [woT]) (kC.2 _ _ (k9.2 _ _ gcB (by omega)) (by omega)) (fun r hr => by obtain ⟨e, _, rfl⟩ := List.mem_map.1 hr; rfl) (by simp [woT]; omega)
      have gdC := sC.cells g75
      simp -implicitDefEqProofs (maxSteps := 999999) (disch := first | with_reducible rfl | omega | (simp only [nA, nS, nD] <;> omega) | fail) only [go_sem, t5, t6, t14, t77, t78, gB9]
      generalize h9.set h8.next (.cells .rw [.sl a 0 (t.eyes.length - 1) (.fix t.eyes.length), .sl b 0 t.lights.length (.fix t.lights.length), .sl c 0 t.pieces.length (.fix t.pieces.length)]) = hC at kC wC gC sC iW gdC ⊢
      simp -implicitDefEqProofs (maxSteps := 999999) (disch := first | with_reducible rfl | omega | (simp only [nA, nS, nD] <;> omega) | fail) only [go_sem, t5, t6, t14, t77, t78, gdC, lP]
      have gW := woT_good g hi h1
      have c1 : check (woT t i) = 0 := check_iff.2 gW
      refine W.mono (Q := fun x s => x = .ext 4 ∧ ∃ tm hh, s = ⟨tm, hh, []⟩ ∧ h5.Sub hh ∧ (Opd.t 5).ev tm = .ptr b7 0 ∧ (Opd.t 6).ev tm = y6 ∧ (Opd.t 77).ev tm = .int .i64 (t.eyes.length : Int) ∧ (Opd.t 78).ev tm = .int .i64 (i : Int))
        (W_count t.pieces.length (fun p s => ∃ tm hq, s = ⟨tm, hq, []⟩ ∧ hC.Sub hq ∧ (Opd.t 5).ev tm = .ptr b7 0 ∧ (Opd.t 6).ev tm = y6 ∧ (Opd.t 14).ev tm = .int .i64 (i : Int) ∧ (Opd.t 18).ev tm = .ptr h8.next 0 ∧ (Opd.t 77).ev tm = .int .i64 (t.eyes.length : Int) ∧ (Opd.t 78).ev tm = .int .i64 (i : Int) ∧ (Opd.t 153).ev tm = .int .i64 (t.pieces.length : Int) ∧ (Opd.t 154).ev tm = .int .i64 (p : Int))
        ?_ ?_ (i := 0) (Nat.zero_le _) ⟨_, _, rfl, H.Sub.refl sC.wf, (by simp [ev_c, ev_put, t5] <;> rfl), (by simp [ev_c, ev_put, t6] <;> rfl), (by simp [ev_c, ev_put, t14] <;> rfl), (by simp [ev_c, ev_put] <;> rfl), (by simp [ev_c, ev_put, t77] <;> rfl), (by simp [ev_c, ev_put, t78] <;> rfl), (by simp [ev_c, ev_put] <;> rfl), (by simp [ev_c, ev_put] <;> rfl)⟩) fun x s hx => ?_
      · clear t5 t6 t14 t77 t78
        rintro p s hp ⟨tm, hq, rfl, sq, t5, t6, t14, t18, t77, t78, t153, t154⟩
        have hp' : (p : Int) < (t.pieces.length : Int) := by omega
        simp -implicitDefEqProofs (maxSteps := 999999) (disch := first | with_reducible rfl | omega | (simp only [nA, nS, nD] <;> omega) | fail) only [go_sem, t5, t6, t14, t18, t77, t78, t153, t154, hp']
        refine W_count p (fun r s => ∃ tm hq, s = ⟨tm, hq, []⟩ ∧ hC.Sub hq ∧ (Opd.t 5).ev tm = .ptr b7 0 ∧ (Opd.t 6).ev tm = y6 ∧ (Opd.t 14).ev tm = .int .i64 (i : Int) ∧ (Opd.t 18).ev tm = .ptr h8.next 0 ∧ (Opd.t 19).ev tm = .int .i64 (p : Int) ∧ (Opd.t 77).ev tm = .int .i64 (t.eyes.length : Int) ∧ (Opd.t 78).ev tm = .int .i64 (i : Int) ∧ (Opd.t 153).ev tm = .int .i64 (t.pieces.length : Int) ∧ (Opd.t 154).ev tm = .int .i64 (p : Int) ∧ (Opd.t 157).ev tm = .int .i64 (p : Int) ∧ (Opd.t 158).ev tm = .int .i64 (r : Int))
          ?_ ?_ (i := 0) (Nat.zero_le _) ⟨_, _, rfl, sq, (by simp [ev_c, ev_put, t5] <;> rfl), (by simp [ev_c, ev_put, t6] <;> rfl), (by simp [ev_c, ev_put, t14] <;> rfl), (by simp [ev_c, ev_put, t18] <;> rfl), (by simp [ev_c, ev_put] <;> rfl), (by simp [ev_c, ev_put, t77] <;> rfl), (by simp [ev_c, ev_put, t78] <;> rfl), (by simp [ev_c, ev_put, t153] <;> rfl), (by simp [ev_c, ev_put, t154] <;> rfl), (by simp [ev_c, ev_put] <;> rfl), (by simp [ev_c, ev_put] <;> rfl)⟩
        · clear t5 t6 t14 t18 t77 t78 t153 t154 sq
          rintro r s hr ⟨tm, hq, rfl, sq, t5, t6, t14, t18, t19, t77, t78, t153, t154, t157, t158⟩
          have hr' : (r : Int) < (p : Int) := by omega
          have ip : isPc t (p : Int) = true := by simp only [isPc, decide_eq_true_eq]; omega
          have ir : isPc t (r : Int) = true := by simp only [isPc, decide_eq_true_eq]; omega
          have m1 : matchE t (p : Int) (r : Int) = 0 := by unfold matchE; rw [if_neg (by simp [c0]), if_neg (by simp [ip, ir])]
          have m2 : matchE (woT t i) (p : Int) (r : Int) = 0 := by unfold matchE; rw [if_neg (by simp [c1]), if_neg (by simp [show isPc (woT t i) (p : Int) = true from ip, show isPc (woT t i) (r : Int) = true from ir])]
          have r1 : matchR t (p : Int) (r : Int) = matchB t p r := by unfold matchR; rw [m1]; simp
          have r2 : matchR (woT t i) (p : Int) (r : Int) = matchB (woT t i) p r := by unfold matchR; rw [m2]; simp
          simp -implicitDefEqProofs (maxSteps := 999999) (disch := first | with_reducible rfl | omega | (simp only [nA, nS, nD] <;> omega) | fail) only [go_sem, t5, t6, t14, t18, t19, t77, t78, t153, t154, t157, t158, hr', sq.cells gdC]
          refine Match_ev sq.wf (i5.mono (sC.trans sq)) (p : Int) (r : Int) _ fun hD sD => ?_
          rw [m1, r1]
          have sqD := sq.trans sD
          simp -implicitDefEqProofs (maxSteps := 999999) (disch := first | with_reducible rfl | omega | (simp only [nA, nS, nD] <;> omega) | fail) only [go_sem, t5, t6, t14, t18, t19, t77, t78, t153, t154, t157, t158, sqD.cells gC]
          refine Match_ev sD.wf (iW.mono sqD) (p : Int) (r : Int) _ fun hF sF => ?_
          rw [m2, r2]
          have sqF := sqD.trans sF
          obtain ⟨w1, w2⟩ := wo_match g hi h1 hp (show r < t.pieces.length by omega)
          cases hm : matchB t p r with
          | true =>
            rw [w1 hm]
            simp -implicitDefEqProofs (maxSteps := 999999) (disch := first | with_reducible rfl | omega | (simp only [nA, nS, nD] <;> omega) | fail) only [go_sem, t5, t6, t14, t18, t19, t77, t78, t153, t154, t157, t158, nn, wr_succ]
            exact ⟨_, _, rfl, sqF, (by simp [ev_c, ev_put, t5] <;> rfl), (by simp [ev_c, ev_put, t6] <;> rfl), (by simp [ev_c, ev_put, t14] <;> rfl), (by simp [ev_c, ev_put, t18] <;> rfl), (by simp [ev_c, ev_put, t19] <;> rfl), (by simp [ev_c, ev_put, t77] <;> rfl), (by simp [ev_c, ev_put, t78] <;> rfl), (by simp [ev_c, ev_put, t153] <;> rfl), (by simp [ev_c, ev_put, t154] <;> rfl), (by simp [ev_c, ev_put, t157] <;> rfl), (by simp [ev_c, ev_put] <;> rfl)⟩
          | false =>
            rw [w2 hm]
            obtain ⟨_, _, _, eF, _, _, aPF⟩ := i5.mono (sC.trans sqF)
            cases eF
            obtain ⟨bP, oP, cP, csP, eP, hcP, hqP, hgP, _, _⟩ := aPF.at hp
            obtain ⟨bR, oR, cR, csR, eR, hcR, hqR, hgR, _, _⟩ := aPF.at (k := r) (by omega)
            have htl := tellers_ev (h := hF) sqF.wf (i5.mono (sC.trans sqF)) g (g.piece _ (List.getElem_mem hp)) (g.piece _ (List.getElem_mem (show r < t.pieces.length by omega)))
            simp only [encD] at htl hgP hgR
            simp -implicitDefEqProofs (maxSteps := 999999) (disch := first | with_reducible rfl | omega | (simp only [nA, nS, nD] <;> omega) | fail) only [go_sem, t5, t6, t14, t18, t19, t77, t78, t153, t154, t157, t158, nn, Bool.not_false, sqF.cells gdC, hqP (nat_cst p), hcP, hgP, hqR (nat_cst r), hcR, hgR, evQ_ld]
            refine htl _ fun yt hG oy => ?_
            have lt6 := tellK_len t t.pieces[p] (t.pieces[r]'(by omega)) t.eyes.length
            have etp : tellP t p r = tellK t t.pieces[p] (t.pieces[r]'(by omega)) t.eyes.length := by unfold tellP; rw [List.getElem?_eq_getElem hp, List.getElem?_eq_getElem (show r < t.pieces.length by omega)]
            have sB := (H.Sub.refl oy.1.wf).add (.cells .rw [.int .i64 (i : Int)])
            have bb : ∀ b : Bool, (!(b == b)) = false := fun b => by cases b <;> rfl
            simp -implicitDefEqProofs (maxSteps := 999999) (disch := first | with_reducible rfl | omega | (simp only [nA, nS, nD] <;> omega) | fail) only [go_sem, t5, t6, t14, t18, t19, t77, t78, t153, t154, t157, t158]
            refine (equalInt_ev (r := [(i : Int)]) (((oy.sl (by simp only [List.length_map]; omega)).mono sB)) own1_lit).mono fun u h3 hu => ?_
            obtain ⟨rfl, rfl⟩ := hu
            rw [etp]
            simp -implicitDefEqProofs (maxSteps := 999999) (disch := first | with_reducible rfl | omega | (simp only [nA, nS, nD] <;> omega) | fail) only [go_sem, t5, t6, t14, t18, t19, t77, t78, t153, t154, t157, t158, bb, sqF.cells gdC, hcP, hgP, hcR, hgR, wr_succ]
            exact ⟨_, _, rfl, sqF.trans (oy.1.trans sB), (by simp [ev_c, ev_put, t5] <;> rfl), (by simp [ev_c, ev_put, t6] <;> rfl), (by simp [ev_c, ev_put, t14] <;> rfl), (by simp [ev_c, ev_put, t18] <;> rfl), (by simp [ev_c, ev_put, t19] <;> rfl), (by simp [ev_c, ev_put, t77] <;> rfl), (by simp [ev_c, ev_put, t78] <;> rfl), (by simp [ev_c, ev_put, t153] <;> rfl), (by simp [ev_c, ev_put, t154] <;> rfl), (by simp [ev_c, ev_put, t157] <;> rfl), (by simp [ev_c, ev_put] <;> rfl)⟩
        · clear t5 t6 t14 t18 t77 t78 t153 t154 sq
          rintro s ⟨tm, hq, rfl, sq, t5, t6, t14, t18, t19, t77, t78, t153, t154, t157, t158⟩
          simp -implicitDefEqProofs (maxSteps := 999999) (disch := first | with_reducible rfl | omega | (simp only [nA, nS, nD] <;> omega) | fail) only [go_sem, t5, t6, t14, t18, t19, t77, t78, t153, t154, t157, t158, Int.lt_irrefl, wr_succ]
          exact ⟨_, _, rfl, sq, (by simp [ev_c, ev_put, t5] <;> rfl), (by simp [ev_c, ev_put, t6] <;> rfl), (by simp [ev_c, ev_put, t14] <;> rfl), (by simp [ev_c, ev_put, t18] <;> rfl), (by simp [ev_c, ev_put, t77] <;> rfl), (by simp [ev_c, ev_put, t78] <;> rfl), (by simp [ev_c, ev_put, t153] <;> rfl), (by simp [ev_c, ev_put] <;> rfl)⟩
      · clear t5 t6 t14 t77 t78
        rintro s ⟨tm, hq, rfl, sq, t5, t6, t14, t18, t77, t78, t153, t154⟩
        simp -implicitDefEqProofs (maxSteps := 999999) (disch := first | with_reducible rfl | omega | (simp only [nA, nS, nD] <;> omega) | fail) only [go_sem, t5, t6, t14, t18, t77, t78, t153, t154, Int.lt_irrefl]
        exact ⟨_, _, rfl, sC.trans sq, (by simp [ev_c, ev_put, t5] <;> rfl), (by simp [ev_c, ev_put, t6] <;> rfl), (by simp [ev_c, ev_put, t77] <;> rfl), (by simp [ev_c, ev_put, t78] <;> rfl)⟩
      obtain ⟨rfl, tm, hq, rfl, sq, t5, t6, t77, t78⟩ := hx
      simp -implicitDefEqProofs (maxSteps := 999999) (disch := first | with_reducible rfl | omega | (simp only [nA, nS, nD] <;> omega) | fail) only [go_sem, t5, t6, t77, t78]
      exact ⟨by first | exact .inl rfl | simp, _, _, rfl, sq, (by simp [ev_c, ev_put, t5] <;> rfl), (by simp [ev_c, ev_put, t6] <;> rfl), (by simp [ev_c, ev_put, t77] <;> rfl), (by simp [ev_c, ev_put, t78] <;> rfl)⟩
    simp only [nav, c11] at hP
    rw [hP]
    simp -implicitDefEqProofs (maxSteps := 999999) (disch := first | with_reducible rfl | omega | (simp only [nA, nS, nD] <;> omega) | fail) only [go_sem, t5, t6, t77, t78]
    refine hasInt_ev s8.wf (hn5.mono s58) (i : Int) _ fun h9 s9 => ?_
    rw [need_has hi]
    have s59 := s58.trans s9
    have gd9 := s59.cells g75
    have wE : witE t (i : Int) = if (wit t (i : Int)).isSome = false then 6 else 0 := by unfold witE; rw [if_neg (by simp [c0]), if_neg (by simp [ie])]
    have bb : ∀ b : Bool, (!(b == b)) = false := fun b => by cases b <;> rfl
    cases hwi : wit t (i : Int) with
    | none =>
      have e6 : witE t (i : Int) = 6 := by rw [wE, hwi]; rfl
      rw [e6]
      simp -implicitDefEqProofs (maxSteps := 999999) (disch := first | with_reducible rfl | omega | (simp only [nA, nS, nD] <;> omega) | fail) only [go_sem, t5, t6, t77, t78, Option.isSome_none, d60, d60n, d66, bb]
      refine (tail _ _ s59 (by simp [ev_c, ev_put, t5] <;> rfl) (by simp [ev_c, ev_put, t6] <;> rfl) (by simp [ev_c, ev_put] <;> rfl) (by simp [ev_c, ev_put, t77] <;> rfl) (by simp [ev_c, ev_put, t78] <;> rfl)).mono fun x s hx => ?_
      obtain ⟨hx, tm, hh, rfl, sh, t5, t6, t77, t78⟩ := hx
      rcases hx with rfl | rfl
      · simp -implicitDefEqProofs (maxSteps := 999999) (disch := first | with_reducible rfl | omega | (simp only [nA, nS, nD] <;> omega) | fail) only [go_sem, t5, t6, t77, t78, wr_succ]
        exact ⟨_, _, rfl, sh, (by simp [ev_c, ev_put, t5] <;> rfl), (by simp [ev_c, ev_put, t6] <;> rfl), (by simp [ev_c, ev_put, t77] <;> rfl), (by simp [ev_c, ev_put] <;> rfl)⟩
      · simp -implicitDefEqProofs (maxSteps := 999999) (disch := first | with_reducible rfl | omega | (simp only [nA, nS, nD] <;> omega) | fail) only [go_sem, t5, t6, t77, t78, wr_succ]
        exact ⟨_, _, rfl, sh, (by simp [ev_c, ev_put, t5] <;> rfl), (by simp [ev_c, ev_put, t6] <;> rfl), (by simp [ev_c, ev_put, t77] <;> rfl), (by simp [ev_c, ev_put] <;> rfl)⟩
    | some p =>
      obtain ⟨p1, p2, p3⟩ := wit_some hwi
      have e6 : witE t (i : Int) = 0 := by rw [wE, hwi]; rfl
      have ea : witA t (i : Int) = p := by unfold witA; rw [if_pos e6, hwi]; rfl
      rw [e6, ea]
      obtain ⟨q1, q2⟩ := p
      dsimp only at p1 p2 p3 ⊢
      have f1 : ¬ (q1 : Int) < 0 := by omega
      have f2 : ¬ (q2 : Int) ≤ (q1 : Int) := by omega
      have f3 : ¬ (t.pieces.length : Int) ≤ (q2 : Int) := by omega
      have hq1 : q1 < t.pieces.length := by omega
      obtain ⟨_, _, _, eF, _, _, aPF⟩ := i5.mono s59
      cases eF
      obtain ⟨bP, oP, cP, csP, eP, hcP, hqP, hgP, _, _⟩ := aPF.at hq1
      obtain ⟨bR, oR, cR, csR, eR, hcR, hqR, hgR, _, _⟩ := aPF.at p2
      have htl := tellers_ev (h := h9) s59.wf (i5.mono s59) g (g.piece _ (List.getElem_mem hq1)) (g.piece _ (List.getElem_mem p2))
      have etp : tellP t q1 q2 = tellK t t.pieces[q1] t.pieces[q2] t.eyes.length := by unfold tellP; rw [List.getElem?_eq_getElem hq1, List.getElem?_eq_getElem p2]
      rw [← etp, p3] at htl
      simp only [encD] at htl hgP hgR
      simp -implicitDefEqProofs (maxSteps := 999999) (disch := first | with_reducible rfl | omega | (simp only [nA, nS, nD] <;> omega) | fail) only [go_sem, t5, t6, t77, t78, Option.isSome_some, d00, nn, bb, f1, f2, f3, gd9, lP, hqP (nat_cst q1), hcP, hgP, hqR (nat_cst q2), hcR, hgR, evQ_ld]
      refine htl _ fun yt hG oy => ?_
      have sB := (H.Sub.refl oy.1.wf).add (.cells .rw [.int .i64 (i : Int)])
      simp -implicitDefEqProofs (maxSteps := 999999) (disch := first | with_reducible rfl | omega | (simp only [nA, nS, nD] <;> omega) | fail) only [go_sem, t5, t6, t77, t78]
      refine (equalInt_ev (l := [(i : Int)]) (r := [(i : Int)]) ((oy.sl (by simp)).mono sB) own1_lit).mono fun u h3 hu => ?_
      obtain ⟨rfl, rfl⟩ := hu
      have ee : decide ([(i : Int)] = [(i : Int)]) = true := decide_eq_true rfl
      simp -implicitDefEqProofs (maxSteps := 999999) (disch := first | with_reducible rfl | omega | (simp only [nA, nS, nD] <;> omega) | fail) only [go_sem, t5, t6, t77, t78, ee, Bool.not_true, gd9, hcP, hgP, hcR, hgR]
      refine (tail _ _ (s59.trans (oy.1.trans sB)) (by simp [ev_c, ev_put, t5] <;> rfl) (by simp [ev_c, ev_put, t6] <;> rfl) (by simp [ev_c, ev_put] <;> rfl) (by simp [ev_c, ev_put, t77] <;> rfl) (by simp [ev_c, ev_put, t78] <;> rfl)).mono fun x s hx => ?_
      obtain ⟨hx, tm, hh, rfl, sh, t5, t6, t77, t78⟩ := hx
      rcases hx with rfl | rfl
      · simp -implicitDefEqProofs (maxSteps := 999999) (disch := first | with_reducible rfl | omega | (simp only [nA, nS, nD] <;> omega) | fail) only [go_sem, t5, t6, t77, t78, wr_succ]
        exact ⟨_, _, rfl, sh, (by simp [ev_c, ev_put, t5] <;> rfl), (by simp [ev_c, ev_put, t6] <;> rfl), (by simp [ev_c, ev_put, t77] <;> rfl), (by simp [ev_c, ev_put] <;> rfl)⟩
      · simp -implicitDefEqProofs (maxSteps := 999999) (disch := first | with_reducible rfl | omega | (simp only [nA, nS, nD] <;> omega) | fail) only [go_sem, t5, t6, t77, t78, wr_succ]
        exact ⟨_, _, rfl, sh, (by simp [ev_c, ev_put, t5] <;> rfl), (by simp [ev_c, ev_put, t6] <;> rfl), (by simp [ev_c, ev_put, t77] <;> rfl), (by simp [ev_c, ev_put] <;> rfl)⟩
  · clear t5 t6
    rintro s ⟨tm, hh, rfl, sh, t5, t6, t77, t78⟩
    simp -implicitDefEqProofs (maxSteps := 999999) (disch := first | with_reducible rfl | omega | (simp only [nA, nS, nD] <;> omega) | fail) only [go_sem, t5, t6, t77, t78, Int.lt_irrefl, awake_eq]
end Go.Ab.Try
