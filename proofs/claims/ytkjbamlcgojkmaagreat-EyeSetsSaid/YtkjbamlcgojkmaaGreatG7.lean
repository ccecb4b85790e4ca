/- The reference's Sort. Some eyes, as the law tries them; which lists rise; slices.Compare. slices.Compact, rising, Enough. Witness, Needed. Tellers. Plain. The reference's searches: sets, members, first, Listed. The reference's Most. Whether lists are a sorting, as the reference finds it. Tables of integers as blocks; rows that are stored. Sorted. Rows of integers: copies, comparison; which tables and lists are too great. Into how few sets, as the reference finds it. Plain. -/
import Derived.Test.YtkjbamlcgojkmaaGreatG2
import Derived.Test.YtkjbamlcgojkmaaGreatG5
import Derived.Test.YtkjbamlcgojkmaaGreatG6
set_option linter.unusedSimpArgs false
set_option linter.unusedVariables false
namespace Go.Ab.Tryz
open Go.Ab.Silk (Inc lexlt)
theorem isNaN_eq (a : Int) (h : H) (R : V → H → Prop) : Ev fnG fastA (.fn 170 [] []) [.int .i64 a] h R = R (.bool false) h := by
 refine Ev.det (Ev_body (fd := c170) rfl rfl rfl ?_) R
 simp -implicitDefEqProofs (maxSteps := 999999) (disch := first | with_reducible rfl | omega | (simp only [nA, nS, nD] <;> omega) | fail) only [c170, go_sem, ne_eq, not_true_eq_false, not_false_eq_true]
theorem less_eq (a b : Int) (h : H) (Q : V → H → Prop) : Ev fnG fastA (.fn 165 [] []) [.int .i64 a, .int .i64 b] h Q = Q (.bool (decide (a < b))) h := by
 refine Ev.det (Ev_body (fd := c165) rfl rfl rfl ?_) Q
 simp -implicitDefEqProofs (maxSteps := 999999) (disch := first | with_reducible rfl | omega | (simp only [nA, nS, nD] <;> omega) | fail) only [c165, go_sem, isNaN_eq]
theorem adj_pw {R : Int → Int → Prop} (tr : ∀ a b c, R a b → R b c → R a c) : ∀ {l : List Int}, (∀ i (h : i + 1 < l.length), R l[i] l[i + 1]) → l.Pairwise R
 | [], _ => List.Pairwise.nil
 | [a], _ => by simp
 | a :: b :: l, h => by
  have ih := adj_pw tr (l := b :: l) fun i hi => h (i + 1) (by simpa using hi)
  rw [List.pairwise_cons] at ih ⊢
  have hab : R a b := h 0 (by simp)
  exact ⟨fun x hx => by
   rcases List.mem_cons.1 hx with rfl | hx
   ·exact hab
   ·exact tr _ _ _ hab (ih.1 x hx), List.pairwise_cons.2 ih⟩
theorem isSorted_ev {h : H} {x : V} {l : List Int} (hx : SlAt h x 1 (l.map encI)) (Q : V → H → Prop) : Ev fnG fastA (.fn 132 [] []) [x] h Q = Q (.bool (decide (l.Pairwise (· ≤ ·)))) h := by
 have hlx := hx.lenE
 have hbd := hx.boundE
 refine Ev.det (Ev_body (fd := c132) rfl rfl rfl ?_) Q
 have ew0 : wr .i64 ((l.length : Int) - 1) = (l.length : Int) - 1 := wr_in (by omega) (by omega)
 simp -implicitDefEqProofs (maxSteps := 999999) (disch := first | with_reducible rfl | omega | (simp only [nA, nS, nD] <;> omega) | fail) only [c132, go_sem, hlx]
 refine W_loop (fun k s => ∃ (tm : Go.Ab.T V) (i : Int), s = ⟨tm, h, []⟩ ∧ k = (i + 1).toNat ∧ -1 ≤ i ∧ i < l.length ∧ (i = -1 → l.length = 0) ∧ (∀ j (hj : j + 1 < l.length), i < ((j + 1 : Nat) : Int) → l[j] ≤ l[j + 1]) ∧ (Opd.t 0).ev tm = x ∧ (Opd.t 3).ev tm = .int .i64 i) ?_ l.length _ ⟨_, (l.length : Int) - 1, rfl, by omega, by omega, by omega, by omega, fun j hj h0 => by omega, (by simp [ev_c, ev_put] <;> rfl), (by simp [ev_c, ev_put, ew0] <;> rfl)⟩
 rintro k s ⟨tm, i, rfl, hk, i0, i1, i2, hord, t0, t3⟩
 by_cases hi : 0 < i
 ·obtain ⟨n, rfl⟩ : ∃ n : Nat, i = ((n + 1 : Nat) : Int) := ⟨(i - 1).toNat, by omega⟩
  have hn1 : n + 1 < l.length := by omega
  have hn0 : n < l.length := by omega
  obtain ⟨b1, o1, c1, cs1, rfl, hc1, hq1, hg1, hn1', hn01⟩ := hx.at hn1
  obtain ⟨b2, o2, c2, cs2, e2, hc2, hq2, hg2, hn2', hn02⟩ := hx.at hn0
  have ew : wr .i64 (((n + 1 : Nat) : Int) - 1) = (n : Int) := by rw [wr_in (by omega) (by omega)]; omega
  by_cases hlt : l[n + 1] < l[n]
  ·have hf : decide (l.Pairwise (· ≤ ·)) = false := decide_eq_false fun hp => by
    have := List.pairwise_iff_getElem.1 hp n (n + 1) hn0 hn1 (by omega); omega
   have dl : decide (l[n + 1] < l[n]) = true := decide_eq_true hlt
   simp -implicitDefEqProofs (maxSteps := 999999) (disch := first | with_reducible rfl | omega | (simp only [nA, nS, nD] <;> omega) | fail) only [go_sem, t0, t3, hi, hq1 (nat_cst (n + 1)), hc1, hn01 (by omega), ew, hq2 (nat_cst n), hc2, hn02 (by omega), encI, less_eq, dl, hf]
  ·have dl : decide (l[n + 1] < l[n]) = false := decide_eq_false hlt
   simp -implicitDefEqProofs (maxSteps := 999999) (disch := first | with_reducible rfl | omega | (simp only [nA, nS, nD] <;> omega) | fail) only [go_sem, t0, t3, hi, hq1 (nat_cst (n + 1)), hc1, hn01 (by omega), ew, hq2 (nat_cst n), hc2, hn02 (by omega), encI, less_eq, dl]
   exact ⟨n + 1, by omega, _, (n : Int), rfl, by omega, by omega, by omega, by omega, fun j hj h0 => by
    by_cases e : j = n
    ·subst e; omega
    ·exact hord j hj (by omega), (by simp [ev_c, ev_put, t0] <;> rfl), (by simp [ev_c, ev_put, ew] <;> rfl)⟩
 ·have ht : decide (l.Pairwise (· ≤ ·)) = true := decide_eq_true (adj_pw (R := fun a b => a ≤ b) (fun a b c h1 h2 => Int.le_trans h1 h2) fun j hj => hord j hj (by omega))
  simp -implicitDefEqProofs (maxSteps := 999999) (disch := first | with_reducible rfl | omega | (simp only [nA, nS, nD] <;> omega) | fail) only [go_sem, t0, t3, hi, ht]
end Go.Ab.Tryz
set_option linter.unusedSimpArgs false
set_option linter.unusedVariables false
namespace Go.Ab
theorem nth_iv {L : List Int} {i : Nat} (h : i < L.length) : nth i (L.map iv) = some (.int .i64 L[i]) := by
 rw [nth_eq, List.getElem?_map, List.getElem?_eq_getElem h]; rfl
theorem put_iv {L : List Int} {i : Nat} (h : i < L.length) (v : Int) : putN i [.int .i64 v] (L.map iv) = some ((L.set i v).map iv) := by
 have e : L = L.take i ++ L[i] :: L.drop (i + 1) := by rw [← List.drop_eq_getElem_cons h, List.take_append_drop]
 have := putN_app (pre := (L.take i).map iv) (new := [iv v]) (old := [iv L[i]]) (rest := (L.drop (i + 1)).map iv) rfl
 rw [List.length_map, List.length_take, Nat.min_eq_left (by omega)] at this
 have e2 : L.map iv = (L.take i).map iv ++ [iv L[i]] ++ (L.drop (i + 1)).map iv := by
  rw [show [iv L[i]] = [L[i]].map iv from rfl, ← List.map_append, ← List.map_append, List.append_assoc]
  exact congrArg (List.map iv) e
 have e3 : (L.set i v).map iv = (L.take i).map iv ++ [iv v] ++ (L.drop (i + 1)).map iv := by
  rw [List.set_eq_take_append_cons_drop, if_pos h]; simp
 rw [e2, e3]; exact this
theorem slcFrom_gr {h : H} {b k : Nat} {L : List Int} (hb : h.get b = some (.cells (.gr 1) (L.map iv))) (h0 : 0 < L.length) (hk : k ≤ L.length) : slcFrom h 1 (.sl b 0 L.length (.slk 0 0)) (.int .i64 (k : Int)) = some (.sl b k (L.length - k) (.slk k 0)) := by
 have hi : ∀ tm : T V, (Opd.c (.int .i64 (k : Int))).ev tm = .int .i64 (k : Int) := fun _ => rfl
 have e1 : Nat.ble k L.length = true := by simp; exact hk
 have e2 : Nat.ble L.length L.length = true := by simp
 have e4 : Nat.blt 0 (L.length + L.length) = true := by rw [Nat.blt_eq]; omega
 have e5 : Nat.beq 1 1 = true := rfl
 have e6 : Nat.beq 0 (0 * 1) = true := rfl
 have e7 : Nat.ble L.length (L.map iv).length = true := by simp
 have e8 : slkRoom h b 0 1 = L.length := by simp [slkRoom, hb, lenN_eq]
 simp only [slcFrom, q_slc, slkOk, hb, lenN_eq, e5, e6, e7, og_true, e8, bnd3, natO, hi, natk_cst, bnds, e1, e2, subS, e4, Nat.mul_one, Nat.zero_add]
namespace Tryz
open Go.Ab.Silk (Inc lexlt)
def Adj (l : List Int) : Prop := ∀ i (h : i + 1 < l.length), l[i] ≠ l[i + 1]
set_option maxHeartbeats 2000000 in
theorem compact_ev {h : H} {b : Nat} {l : List Int} (hw : h.wf) (hb : h.get b = some (.cells (.gr 1) (l.map iv))) (h2 : 2 ≤ l.length) (hl : l.length ≤ 1000) (Q : V → H → Prop)
  (q : ∀ y h' (m : Nat), q_len y = some (.int .i64 (m : Int)) → (Adj l → m = l.length) → (¬ Adj l → m < l.length) → Keeps (fun c => c = b) h h' → h'.wf → Q y h') : Ev fnG fastA (.fn 133 [] []) [.sl b 0 l.length (.slk 0 0)] h Q := by
 refine Ev_body (fd := c133) rfl rfl rfl ?_
 have hn2 : ¬ (l.length : Int) < 2 := by omega
 have hiad : ∀ k : Nat, k < l.length → q_iad 1 (.sl b 0 l.length (.slk 0 0)) (.int .i64 (k : Int)) = some (.ptr b k) := fun k hk => by
  rw [q_iad_sl (nat_cst k) hk, Nat.mul_one, Nat.zero_add]
 simp -implicitDefEqProofs (maxSteps := 999999) (disch := first | with_reducible rfl | omega | (simp only [nA, nS, nD] <;> omega) | fail) only [c133, go_sem, hn2]
 refine W_loop (fun kk s => ∃ tm i, s = ⟨tm, h, []⟩ ∧ kk = l.length - i ∧ 1 ≤ i ∧ i ≤ l.length ∧ (∀ j (hj : j + 1 < l.length), j + 1 < i → l[j] ≠ l[j + 1]) ∧ (Opd.t 0).ev tm = .sl b 0 l.length (.slk 0 0) ∧ (Opd.t 3).ev tm = .int .i64 (i : Int)) ?_ (l.length - 1) _ ⟨_, 1, rfl, rfl, Nat.le_refl _, by omega, fun j hj h0 => by omega, (by simp [ev_c, ev_put] <;> rfl), (by simp [ev_c, ev_put] <;> rfl)⟩
 rintro kk s ⟨tm, i, rfl, hkk, i1, i2, hadj, t0, t3⟩
 by_cases hi : i < l.length
 ·have hi' : (i : Int) < (l.length : Int) := by omega
  have e1 : (i : Int) - 1 = ((i - 1 : Nat) : Int) := by omega
  have n1 := nth_iv hi
  have n2 := nth_iv (L := l) (i := i - 1) (by omega)
  by_cases heq : l[i] = l[i - 1]
  ·have hna : ¬ Adj l := fun ha => by
    have := ha (i - 1) (by omega)
    simp only [show i - 1 + 1 = i by omega] at this
    exact this heq.symm
   have deq : decide (l[i] = l[i - 1]) = true := decide_eq_true heq
   have hfrom := slcFrom_gr hb (by omega) (k := i) (by omega)
   have lb := hw _ _ hb
   simp -implicitDefEqProofs (maxSteps := 999999) (disch := first | with_reducible rfl | omega | (simp only [nA, nS, nD] <;> omega) | fail) only [go_sem, t0, t3, hi', wr_in, e1, hiad i hi, hiad (i - 1) (by omega), cells_of hb, n1, n2, deq, q_slc_from, hfrom]
   refine W.mono (Q := fun x1 s => x1 = .ext 2 ∧ ∃ (tm : Go.Ab.T V) (hh : H) (L : List Int) (m : Nat), s = ⟨tm, hh, []⟩ ∧ Keeps (fun c => c = b) h hh ∧ hh.wf ∧ hh.get b = some (.cells (.gr 1) (L.map iv)) ∧ L.length = l.length ∧ m < l.length ∧ (Opd.t 0).ev tm = .sl b 0 l.length (.slk 0 0) ∧ (Opd.t 3).ev tm = .int .i64 (m : Int))
    (W_loop (fun kk s => ∃ (tm : Go.Ab.T V) (hh : H) (L : List Int) (m k2 : Nat), s = ⟨tm, hh, []⟩ ∧ kk = l.length - i - k2 ∧ 1 ≤ k2 ∧ i + k2 ≤ l.length ∧ m + 1 ≤ i + k2 ∧ Keeps (fun c => c = b) h hh ∧ hh.wf ∧ hh.get b = some (.cells (.gr 1) (L.map iv)) ∧ L.length = l.length ∧
     (Opd.t 0).ev tm = .sl b 0 l.length (.slk 0 0) ∧ (Opd.t 3).ev tm = .int .i64 (m : Int) ∧ (Opd.t 4).ev tm = .sl b i (l.length - i) (.slk i 0) ∧ (Opd.t 5).ev tm = .int .i64 (k2 : Int)) ?_ (l.length - i - 1) _
     ⟨_, _, l, i, 1, rfl, rfl, Nat.le_refl _, by omega, by omega, Keeps.refl _ _, hw, hb, rfl, (by simp [ev_c, ev_put, t0] <;> rfl), (by simp [ev_c, ev_put, t3] <;> rfl), (by simp [ev_c, ev_put] <;> rfl), (by simp [ev_c, ev_put] <;> rfl)⟩) fun x1 s hx1 => ?_
   ·rintro kk s ⟨tm, hh, L, m, k2, rfl, hkk, k1, k3, k4, kp, wh, gL, hL, t0, t3, t4, t5⟩
    by_cases hk : k2 < l.length - i
    ·have hk' : (k2 : Int) < ((l.length - i : Nat) : Int) := by omega
     have e2 : (k2 : Int) - 1 = ((k2 - 1 : Nat) : Int) := by omega
     have a1 : q_iad 1 (.sl b i (l.length - i) (.slk i 0)) (.int .i64 (k2 : Int)) = some (.ptr b (i + k2)) := by rw [q_iad_sl (nat_cst k2) hk, Nat.mul_one]
     have a2 : q_iad 1 (.sl b i (l.length - i) (.slk i 0)) (.int .i64 ((k2 - 1 : Nat) : Int)) = some (.ptr b (i + (k2 - 1))) := by rw [q_iad_sl (nat_cst (k2 - 1)) (by omega), Nat.mul_one]
     have a3 := hiad m (by omega)
     have v1 := nth_iv (L := L) (i := i + k2) (by omega)
     have v2 := nth_iv (L := L) (i := i + (k2 - 1)) (by omega)
     cases hd : decide (L[i + k2]'(by omega) ≠ L[i + (k2 - 1)]'(by omega)) with
     | false =>
      simp -implicitDefEqProofs (maxSteps := 999999) (disch := first | with_reducible rfl | omega | (simp only [nA, nS, nD] <;> omega) | fail) only [go_sem, t0, t3, t4, t5, hk', wr_in, e2, a1, a2, cells_of gL, v1, v2, hd, wr_succ]
      exact ⟨_, by omega, _, _, L, m, k2 + 1, rfl, rfl, by omega, by omega, by omega, kp, wh, gL, hL, (by simp [ev_c, ev_put, t0] <;> rfl), (by simp [ev_c, ev_put, t3] <;> rfl), (by simp [ev_c, ev_put, t4] <;> rfl), (by simp [ev_c, ev_put] <;> rfl)⟩
     | true =>
      have hp := put_iv (L := L) (i := m) (by omega) (L[i + k2]'(by omega))
      simp -implicitDefEqProofs (maxSteps := 999999) (disch := first | with_reducible rfl | omega | (simp only [nA, nS, nD] <;> omega) | fail) only [go_sem, t0, t3, t4, t5, hk', wr_in, e2, a1, a2, a3, cells_of gL, gL, v1, v2, hd, hp, wr_succ]
      exact ⟨_, by omega, _, _, _, m + 1, k2 + 1, rfl, rfl, by omega, by omega, by omega, (kp.trans (Keeps.set hh b _)).mono fun c h => h.elim id id, H.wf_set wh _ gL, get_set_same rfl, by rw [List.length_set]; exact hL, (by simp [ev_c, ev_put, t0] <;> rfl), (by simp [ev_c, ev_put] <;> rfl), (by simp [ev_c, ev_put, t4] <;> rfl), (by simp [ev_c, ev_put] <;> rfl)⟩
    ·have hk' : ¬ (k2 : Int) < ((l.length - i : Nat) : Int) := by omega
     simp -implicitDefEqProofs (maxSteps := 999999) (disch := first | with_reducible rfl | omega | (simp only [nA, nS, nD] <;> omega) | fail) only [go_sem, t0, t3, t4, t5, hk']
     exact ⟨_, _, L, m, rfl, kp, wh, gL, hL, by omega, (by simp [ev_c, ev_put, t0] <;> rfl), (by simp [ev_c, ev_put, t3] <;> rfl)⟩
   clear t0 t3
   obtain ⟨rfl, tm, hh, L, m, rfl, kp, wh, gL, hL, hm, t0, t3⟩ := hx1
   have f1 := slcFrom_gr gL (by omega) (k := m) (by omega)
   rw [hL] at f1
   obtain ⟨n, hn⟩ : ∃ n, l.length - m = n + 1 := ⟨l.length - m - 1, by omega⟩
   have hrep : ∀ n, repN n [V.int .i64 0] = (List.replicate n (0 : Int)).map iv := fun n => by
    induction n with
    | zero => rfl
    | succ n ih => simp only [repN, appN_eq, ih, List.replicate_succ, List.map_cons]; rfl
   have hp : putN m ((List.replicate (n + 1) (0 : Int)).map iv) (L.map iv) = some ((L.take m ++ List.replicate (n + 1) 0).map iv) := by
    have := putN_app (pre := (L.take m).map iv) (new := (List.replicate (n + 1) (0 : Int)).map iv) (old := (L.drop m).map iv) (rest := []) (by simp; omega)
    rw [List.length_map, List.length_take, Nat.min_eq_left (by omega), List.append_nil, List.append_nil, ← List.map_append, List.take_append_drop, ← List.map_append] at this
    exact this
   have ho : allOne ((List.replicate (n + 1) (0 : Int)).map iv) = true := by
    rw [allOne_eq]
    intro v hv
    obtain ⟨_, _, rfl⟩ := List.mem_map.1 hv; rfl
   have hclr : e_clr hh [V.int .i64 0] (.sl b m (l.length - m) (.slk m 0)) = some (.und, hh.set b (.cells (.gr 1) ((L.take m ++ List.replicate (n + 1) 0).map iv))) := by
    rw [e_clr_sl, hn, hrep]
    rw [List.replicate_succ, List.map_cons] at hp ho ⊢
    rw [H.put_gr ho gL hp, withV_some]
   have wS := H.wf_set wh (.cells (.gr 1) ((L.take m ++ List.replicate (n + 1) 0).map iv)) gL
   have gS : (hh.set b (.cells (.gr 1) ((L.take m ++ List.replicate (n + 1) 0).map iv))).get b = some (.cells (.gr 1) ((L.take m ++ List.replicate (n + 1) 0).map iv)) := get_set_same rfl
   have ll : (L.take m ++ List.replicate (n + 1) (0 : Int)).length = l.length := by simp; omega
   have lbS : b < (hh.set b (.cells (.gr 1) ((L.take m ++ List.replicate (n + 1) 0).map iv))).next := wS _ _ gS
   have ct : CutO (fun _ => True) (hh.set b (.cells (.gr 1) ((L.take m ++ List.replicate (n + 1) 0).map iv))) (.sl b 0 l.length (.slk 0 0)) 1 ((L.take m ++ List.replicate (n + 1) (0 : Int)).map encI) :=
    ⟨fun r hr => by obtain ⟨_, _, rfl⟩ := List.mem_map.1 hr; rfl, .inr (.inl ⟨b, [], 0, by rw [List.length_map, ll], trivial, lbS, by rw [List.append_nil, map_flat]; exact gS, by simp⟩)⟩
   obtain ⟨y, hy1, hy2, hy3⟩ := ct.to (k := m) (by omega) (by rw [List.length_map, ll]; omega) (by rw [List.length_map, ll]; omega)
   have ly : q_len y = some (.int .i64 (m : Int)) := by
    have := (hy2.sl (by rw [List.length_take, List.length_map, ll]; omega)).len
    rw [this, List.length_take, List.length_map, ll, Nat.min_eq_left (by omega)]
   simp -implicitDefEqProofs (maxSteps := 999999) (disch := first | with_reducible rfl | omega | (simp only [nA, nS, nD] <;> omega) | fail) only [go_sem, t0, t3, q_slc_from, f1, WI_clr, hclr, q_slc_to, hy1]
   exact q y _ m ly (fun ha => absurd ha hna) (fun _ => hm) ((kp.trans (Keeps.set hh b _)).mono fun c h => h.elim id id) wS
  ·have deq : decide (l[i] = l[i - 1]) = false := decide_eq_false heq
   simp -implicitDefEqProofs (maxSteps := 999999) (disch := first | with_reducible rfl | omega | (simp only [nA, nS, nD] <;> omega) | fail) only [go_sem, t0, t3, hi', wr_in, e1, hiad i hi, hiad (i - 1) (by omega), cells_of hb, n1, n2, deq, wr_succ]
   exact ⟨_, by omega, _, i + 1, rfl, rfl, by omega, by omega, fun j hj h0 => by
    by_cases e : j + 1 = i
    ·subst e; exact fun h => heq h.symm
    ·exact hadj j hj (by omega), (by simp [ev_c, ev_put, t0] <;> rfl), (by simp [ev_c, ev_put] <;> rfl)⟩
 ·have hi' : ¬ (i : Int) < (l.length : Int) := by omega
  simp -implicitDefEqProofs (maxSteps := 999999) (disch := first | with_reducible rfl | omega | (simp only [nA, nS, nD] <;> omega) | fail) only [go_sem, t0, t3, hi']
  exact q _ _ l.length rfl (fun _ => rfl) (fun hna => absurd (fun j hj => hadj j hj (by omega)) hna) (Keeps.refl _ _) hw
theorem cloneGr_ev {h : H} {x : V} {l : List Int} (hw : h.wf) (hx : SlAt h x 1 (l.map encI)) (hl : l.length ≤ 1000000) (h0 : 0 < l.length) (Q : V → H → Prop) (q : ∀ b h', h.Sub h' → h.next ≤ b → h'.get b = some (.cells (.gr 1) (l.map iv)) → Q (.sl b 0 l.length (.slk 0 0)) h') : Ev fnG fastA (.fn 134 [] []) [x] h Q := by
 refine Ev_body (fd := c134) rfl rfl rfl ?_
 rcases hx.2.2 with ⟨rfl, e⟩ | ⟨b, o, c, cs, rfl, _⟩
 ·have := congrArg List.length e; simp at this; rw [this] at h0; simp at h0
 ·simp -implicitDefEqProofs (maxSteps := 999999) (disch := first | with_reducible rfl | omega | (simp only [nA, nS, nD] <;> omega) | fail) only [c134, go_sem]
  have s1 : h.Sub (h.add (.cells .rw [])) := (H.Sub.refl hw).add _
  have hx1 := (hx.mono s1).elems
  rw [map_flat, List.length_map] at hx1
  rw [List.length_map]
  obtain ⟨k, hk⟩ : ∃ k, l.length = k + 1 := ⟨l.length - 1, by omega⟩
  rw [e_app_eq, hx1.1, hx1.2]
  simp only [ob_some]
  rw [hk, e_app_full (by omega) (elems_0 _ _ _ _ _) (by simp only [Nat.zero_add]; omega) (by omega), grown_eq, P2_some]
  simp -implicitDefEqProofs (maxSteps := 999999) (disch := first | with_reducible rfl | omega | (simp only [nA, nS, nD] <;> omega) | fail) only [go_sem]
  have := q (h.next + 1) ((h.add (.cells .rw [])).add (.cells (.gr 1) (l.map iv))) (s1.add _) (by omega) (get_add_new (by rw [H.next_add]))
  rw [hk] at this
  simpa using this
theorem lt_iff {l : List Int} : l.Pairwise (· < ·) ↔ l.Pairwise (· ≤ ·) ∧ Adj l := by
 constructor
 ·intro h
  exact ⟨h.imp fun h => by omega, fun i hi => by
   have := List.pairwise_iff_getElem.1 h i (i + 1) (by omega) hi (by omega); omega⟩
 ·rintro ⟨h1, h2⟩
  refine adj_pw (R := fun a b => a < b) (fun a b c h1 h2 => Int.lt_trans h1 h2) fun i hi => ?_
  have := List.pairwise_iff_getElem.1 h1 i (i + 1) (by omega) hi (by omega)
  have := h2 i hi
  show l[i] < l[i + 1]
  omega
theorem rising_ev {h : H} {x : V} {l : List Int} (hw : h.wf) (hx : SlAt h x 1 (l.map encI)) (hl : l.length ≤ 1000) (Q : V → H → Prop) (q : ∀ h', h.Sub h' → Q (.bool (decide (l.Pairwise (· < ·)))) h') : Ev fnG fastA (.fn 80 [] []) [x] h Q := by
 have hlx := hx.lenE
 refine Ev_body (fd := c80) rfl rfl rfl ?_
 by_cases h1 : l.Pairwise (· ≤ ·)
 ·have d1 : decide (l.Pairwise (· ≤ ·)) = true := decide_eq_true h1
  by_cases h2 : 2 ≤ l.length
  ·simp -implicitDefEqProofs (maxSteps := 999999) (disch := first | with_reducible rfl | omega | (simp only [nA, nS, nD] <;> omega) | fail) only [c80, go_sem, isSorted_ev hx, d1]
   refine cloneGr_ev hw hx (by omega) (by omega) _ fun b h3 s3 nb g3 => ?_
   simp -implicitDefEqProofs (maxSteps := 999999) (disch := first | with_reducible rfl | omega | (simp only [nA, nS, nD] <;> omega) | fail) only [go_sem]
   refine compact_ev s3.wf g3 h2 hl _ fun y h4 m ly m1 m2 k4 w4 => ?_
   have e : decide ((m : Int) = (l.length : Int)) = decide (l.Pairwise (· < ·)) := by
    rw [decide_eq_decide, lt_iff]
    constructor
    ·intro he
     refine ⟨h1, Classical.byContradiction fun hna => ?_⟩
     have := m2 hna; omega
    ·rintro ⟨_, ha⟩
     rw [m1 ha]
   simp -implicitDefEqProofs (maxSteps := 999999) (disch := first | with_reducible rfl | omega | (simp only [nA, nS, nD] <;> omega) | fail) only [go_sem, ly, hlx, e]
   exact q _ (k4.sub s3 hw (fun c hc => by omega) w4)
  ·have hp : decide (l.Pairwise (· < ·)) = true := decide_eq_true (lt_iff.2 ⟨h1, fun i hi => by omega⟩)
   rw [hp] at q
   simp -implicitDefEqProofs (maxSteps := 999999) (disch := first | with_reducible rfl | omega | (simp only [nA, nS, nD] <;> omega) | fail) only [c80, go_sem, isSorted_ev hx, d1]
   refine cloneInt_ev hw hx (by rw [List.length_map]; omega) _ fun v h3 ov => ?_
   have lv := (ov.sl (by simp only [List.length_map]; omega)).lenE
   simp -implicitDefEqProofs (maxSteps := 999999) (disch := first | with_reducible rfl | omega | (simp only [nA, nS, nD] <;> omega) | fail) only [go_sem]
   refine Ev_body (fd := c133) rfl rfl rfl ?_
   have hn2 : (l.length : Int) < 2 := by omega
   have ee : decide ((l.length : Int) = (l.length : Int)) = true := decide_eq_true rfl
   simp -implicitDefEqProofs (maxSteps := 999999) (disch := first | with_reducible rfl | omega | (simp only [nA, nS, nD] <;> omega) | fail) only [c133, go_sem, lv, hn2, hlx, ee]
   exact q _ ov.1
 ·have d1 : decide (l.Pairwise (· ≤ ·)) = false := decide_eq_false h1
  have d2 : decide (l.Pairwise (· < ·)) = false := decide_eq_false fun h => h1 (lt_iff.1 h).1
  rw [d2] at q
  simp -implicitDefEqProofs (maxSteps := 999999) (disch := first | with_reducible rfl | omega | (simp only [nA, nS, nD] <;> omega) | fail) only [c80, go_sem, isSorted_ev hx, d1]
  exact q _ (H.Sub.refl hw)
end Tryz
end Go.Ab
set_option linter.unusedSimpArgs false
set_option linter.unusedVariables false
namespace Go.Ab.Tryz
open Go.Ab.Silk (Inc lexlt IsMin)
end Go.Ab.Tryz
set_option linter.unusedSimpArgs false
set_option linter.unusedVariables false
namespace Go.Ab.Tryz
end Go.Ab.Tryz
set_option linter.unusedSimpArgs false
set_option linter.unusedVariables false
namespace Go.Ab.Tryz
open Go.Ab.Silk (Inc bitsL lexlt before IsMin)
theorem dupInt_ev {h : H} {x : V} {l : List Int} (hw : h.wf) (hx : SlAt h x 1 (l.map encI)) (hl : l.length ≤ 1000000) (Q : V → H → Prop) :
  Ev fnG fastA (.fn 26 [] []) [x] h Q = Q (.sl h.next 0 l.length (.fix l.length)) (h.add (.cells .rw (l.map encI).flatten)) := by
 refine Ev.det (Ev_body (fd := c26) rfl rfl rfl ?_) Q
 simp -implicitDefEqProofs (maxSteps := 999999) (disch := first | with_reducible rfl | omega | (simp only [nA, nS, nD] <;> omega) | fail) only [c26, go_sem, hx.lenE, a_msl_0n]
 have := dup_core (by_ := 8) (z := [.int .i64 0]) hx hw rfl (by omega) (allOne_flat (fun a => rfl) l)
 rw [List.length_map] at this
 simp -implicitDefEqProofs (maxSteps := 999999) (disch := first | with_reducible rfl | omega | (simp only [nA, nS, nD] <;> omega) | fail) only [go_sem, this]
theorem sets_ev {h : H} {n : Nat} (hn : n ≤ 10) (Q : V → H → Prop) : Ev fnG fastA (.fn 70 [] []) [.int .i64 (n : Int)] h Q = Q (.int .i64 ((2 : Int) ^ n)) h := by
 refine Ev.det (Ev_body (fd := c70) rfl rfl rfl ?_) Q
 simp -implicitDefEqProofs (maxSteps := 999999) (disch := first | with_reducible rfl | omega | (simp only [nA, nS, nD] <;> omega) | fail) only [c70, go_sem]
 refine W_count n (fun i s => ∃ tm, s = ⟨tm, h, []⟩ ∧ (Opd.t 0).ev tm = .int .i64 (n : Int) ∧ (Opd.t 3).ev tm = .int .i64 ((2 : Int) ^ i) ∧ (Opd.t 4).ev tm = .int .i64 (i : Int))
  ?_ ?_ (i := 0) (Nat.zero_le _) ⟨_, rfl, (by simp [ev_c, ev_put] <;> rfl), (by simp [ev_c, ev_put] <;> rfl), (by simp [ev_c, ev_put] <;> rfl)⟩
 ·rintro i s hi ⟨tm, rfl, t0, t3, t4⟩
  have hi' : (i : Int) < (n : Int) := by omega
  have hp := pow_le (i := i) (by omega)
  have hw2 : wr .i64 (2 * ((2 : Int) ^ i)) = (2 : Int) ^ (i + 1) := by
   have e1 : (2 : Int) ^ i = ((2 ^ i : Nat) : Int) := by simp
   have e2 : (2 : Int) ^ (i + 1) = ((2 ^ (i + 1) : Nat) : Int) := by simp
   rw [e1, e2, Nat.pow_succ]
   generalize 2 ^ i = p at hp ⊢
   rw [wr_in (by omega) (by omega)]; omega
  simp -implicitDefEqProofs (maxSteps := 999999) (disch := first | with_reducible rfl | omega | (simp only [nA, nS, nD] <;> omega) | fail) only [go_sem, t0, t3, t4, hi', hw2, wr_succ]
  exact ⟨_, rfl, (by simp [ev_c, ev_put, t0] <;> rfl), (by simp [ev_c, ev_put] <;> rfl), (by simp [ev_c, ev_put] <;> rfl)⟩
 ·rintro s ⟨tm, rfl, t0, t3, t4⟩
  simp -implicitDefEqProofs (maxSteps := 999999) (disch := first | with_reducible rfl | omega | (simp only [nA, nS, nD] <;> omega) | fail) only [go_sem, t0, t3, t4, Int.lt_irrefl]
theorem pow_int_le {n : Nat} (h : n ≤ 10) : (2 : Int) ^ n ≤ 1024 := by
 have := pow_le h
 have e1 : (2 : Int) ^ n = ((2 ^ n : Nat) : Int) := by simp
 omega
set_option maxHeartbeats 1000000 in
theorem members_ev {h : H} {n : Nat} {s : Int} (hw : h.wf) (hn : n ≤ 10) (h0 : 0 ≤ s) (h1 : s < 2 ^ n) (Q : V → H → Prop) (q : ∀ y h', OwnC h h' y 1 ((bitsL n s 0).map encI) → Q y h') : Ev fnG fastA (.fn 71 [] []) [.int .i64 s] h Q := by
 have hb := pow_int_le hn
 refine Ev_body (fd := c71) rfl rfl rfl ?_
 simp -implicitDefEqProofs (maxSteps := 999999) (disch := first | with_reducible rfl | omega | (simp only [nA, nS, nD] <;> omega) | fail) only [c71, go_sem]
 refine W_loop (fun k st => ∃ tm h' y i, st = ⟨tm, h', []⟩ ∧ k = (sAt s i).toNat ∧ i ≤ n ∧ OwnC h h' y 1 ((lst (bitC s) i).map encI) ∧ (Opd.t 0).ev tm = .int .i64 (sAt s i) ∧ (Opd.t 3).ev tm = y ∧ (Opd.t 4).ev tm = .int .i64 (i : Int)) ?_ (sAt s 0).toNat _
  ⟨_, _, .nils, 0, rfl, rfl, Nat.zero_le _, ⟨H.Sub.refl hw, by simp [lst], .inl ⟨rfl, rfl⟩⟩, (by simp [ev_c, ev_put] <;> rfl), (by simp [ev_c, ev_put] <;> rfl), (by simp [ev_c, ev_put] <;> rfl)⟩
 rintro k st ⟨tm, h', y, i, rfl, rfl, hin, oy, t0, t3, t4⟩
 have n0 := sAt_nn h0 i
 have n1 := sAt_le h0 i
 by_cases hz : sAt s i = 0
 ·have hnl : ¬ (0 : Int) < sAt s i := by omega
  simp -implicitDefEqProofs (maxSteps := 999999) (disch := first | with_reducible rfl | omega | (simp only [nA, nS, nD] <;> omega) | fail) only [go_sem, t0, t3, t4, hnl]
  refine q _ _ ?_
  rw [← lst_all h0 h1 hz]; exact oy
 ·have hp : (0 : Int) < sAt s i := by omega
  have hin' : i < n := by
   have := sAt_zero n h0 h1
   refine Nat.lt_of_not_le fun hc => hz ?_
   exact (lst_stop this i hc).2
  have e1 : (sAt s i).tmod 2 = sAt s i % 2 := Int.tmod_eq_emod_of_nonneg n0
  have e2 : wr .i64 ((sAt s i).tdiv 2) = sAt s (i + 1) := by
   rw [Int.tdiv_eq_ediv_of_nonneg n0, wr_in (by omega) (by omega)]; rfl
  have hlt : (sAt s (i + 1)).toNat < (sAt s i).toNat := by simp only [sAt]; omega
  have hln := lst_len (bitC s) i
  have ei : (i : Int) + 1 = ((i + 1 : Nat) : Int) := by omega
  have wi : wr .i64 ((i : Int) + 1) = ((i + 1 : Nat) : Int) := by rw [wr_in (by omega) (by omega)]; omega
  cases hbt : bitC s i
  ·have hc : ¬ sAt s i % 2 = 1 := by unfold bitC at hbt; simpa using hbt
   have e3 : lst (bitC s) (i + 1) = lst (bitC s) i := by simp [lst, hbt]
   simp -implicitDefEqProofs (maxSteps := 999999) (disch := first | with_reducible rfl | omega | (simp only [nA, nS, nD] <;> omega) | fail) only [go_sem, t0, t3, t4, hp, q_ar_rem .i64 (show (2 : Int) ≠ 0 by decide), q_ar_quo .i64 (show (2 : Int) ≠ 0 by decide), e1, e2, hc, wi]
   exact ⟨_, hlt, _, _, y, i + 1, rfl, rfl, hin', by rw [e3]; exact oy, (by simp [ev_c, ev_put] <;> rfl), (by simp [ev_c, ev_put, t3] <;> rfl), (by simp [ev_c, ev_put] <;> rfl)⟩
  ·have hc : sAt s i % 2 = 1 := by unfold bitC at hbt; simpa using hbt
   have e3 : lst (bitC s) (i + 1) = lst (bitC s) i ++ [(i : Int)] := by simp [lst, hbt]
   have sA := (H.Sub.refl oy.1.wf).add (.cells .rw [.int .i64 (i : Int)])
   simp -implicitDefEqProofs (maxSteps := 999999) (disch := first | with_reducible rfl | omega | (simp only [nA, nS, nD] <;> omega) | fail) only [go_sem, t0, t3, t4, hp, q_ar_rem .i64 (show (2 : Int) ≠ 0 by decide), q_ar_quo .i64 (show (2 : Int) ≠ 0 by decide), e1, e2, hc, wi]
   refine (oy.mono sA).app1 (by_ := 8) (r := encI (i : Int)) hw rfl (by omega) own1_lit rfl (by simp only [List.length_map]; omega) (by simp only [List.length_map]; omega) fun y2 h2 oy2 dy2 ky2 => ?_
   simp -implicitDefEqProofs (maxSteps := 999999) (disch := first | with_reducible rfl | omega | (simp only [nA, nS, nD] <;> omega) | fail) only [go_sem, t0, t3, t4, q_ar_rem .i64 (show (2 : Int) ≠ 0 by decide), q_ar_quo .i64 (show (2 : Int) ≠ 0 by decide), e2, wi]
   exact ⟨_, hlt, _, _, y2, i + 1, rfl, rfl, hin', by rw [e3]; simpa using oy2, (by simp [ev_c, ev_put] <;> rfl), (by simp [ev_c, ev_put] <;> rfl), (by simp [ev_c, ev_put] <;> rfl)⟩
theorem lexlt_drop {a b : List Int} {i : Nat} (h1 : i < a.length) (h2 : i < b.length) : lexlt (a.drop i) (b.drop i) = if a[i] = b[i] then lexlt (a.drop (i + 1)) (b.drop (i + 1)) else decide (a[i] < b[i]) := by
 rw [List.drop_eq_getElem_cons h1, List.drop_eq_getElem_cons h2]; rfl
theorem first_ev {h : H} {x y : V} {a b : List Int} (hx : SlAt h x 1 (a.map encI)) (hy : SlAt h y 1 (b.map encI)) (e : a.length = b.length) (Q : V → H → Prop) : Ev fnG fastA (.fn 72 [] []) [x, y] h Q = Q (.bool (lexlt a b)) h := by
 have hlx := hx.lenE
 refine Ev.det (Ev_body (fd := c72) rfl rfl rfl ?_) Q
 simp -implicitDefEqProofs (maxSteps := 999999) (disch := first | with_reducible rfl | omega | (simp only [nA, nS, nD] <;> omega) | fail) only [c72, go_sem]
 refine W_count a.length (fun i s => ∃ tm, s = ⟨tm, h, []⟩ ∧ lexlt a b = lexlt (a.drop i) (b.drop i) ∧ (Opd.t 0).ev tm = x ∧ (Opd.t 1).ev tm = y ∧ (Opd.t 5).ev tm = .int .i64 (i : Int))
  ?_ ?_ (i := 0) (Nat.zero_le _) ⟨_, rfl, rfl, (by simp [ev_c, ev_put] <;> rfl), (by simp [ev_c, ev_put] <;> rfl), (by simp [ev_c, ev_put] <;> rfl)⟩
 ·rintro i s hi ⟨tm, rfl, hd, t0, t1, t5⟩
  have hbx := hx.boundE
  have hi' : (i : Int) < (a.length : Int) := by omega
  have hib : i < b.length := by omega
  obtain ⟨b1, o1, c1, cs1, rfl, hc1, hq1, hg1, hn1, hn01⟩ := hx.at hi
  obtain ⟨b2, o2, c2, cs2, rfl, hc2, hq2, hg2, hn2, hn02⟩ := hy.at hib
  have hst := lexlt_drop hi hib
  by_cases he : a[i] = b[i]
  ·rw [if_pos he] at hst
   simp -implicitDefEqProofs (maxSteps := 999999) (disch := first | with_reducible rfl | omega | (simp only [nA, nS, nD] <;> omega) | fail) only [go_sem, t0, t1, t5, hlx, hi', hq1 (nat_cst i), hc1, hn01 (by omega), hq2 (nat_cst i), hc2, hn02 (by omega), encI, he, ne_eq, not_true_eq_false, wr_succ]
   exact ⟨_, rfl, by rw [hd, hst], (by simp [ev_c, ev_put, t0] <;> rfl), (by simp [ev_c, ev_put, t1] <;> rfl), (by simp [ev_c, ev_put] <;> rfl)⟩
  ·rw [if_neg he] at hst
   simp -implicitDefEqProofs (maxSteps := 999999) (disch := first | with_reducible rfl | omega | (simp only [nA, nS, nD] <;> omega) | fail) only [go_sem, t0, t1, t5, hlx, hi', hq1 (nat_cst i), hc1, hn01 (by omega), hq2 (nat_cst i), hc2, hn02 (by omega), encI, he, ne_eq, not_false_eq_true]
   rw [hd, hst]
 ·rintro s ⟨tm, rfl, hd, t0, t1, t5⟩
  simp -implicitDefEqProofs (maxSteps := 999999) (disch := first | with_reducible rfl | omega | (simp only [nA, nS, nD] <;> omega) | fail) only [go_sem, t0, t1, t5, hlx, Int.lt_irrefl]
  rw [hd, List.drop_length, show b.drop a.length = [] by rw [e, List.drop_length]]
  rfl
end Go.Ab.Tryz
set_option linter.unusedSimpArgs false
set_option linter.unusedVariables false
namespace Go.Ab.Tryz
open Go.Ab.Silk (Inc bitsL lexlt lexlt_irrefl lexlt_trans lexlt_total)
def navK : List Bool → C → C
 | [], c => c
 | b :: p, .seq x y => match b with | true => navK p y | false => navK p x
 | b :: p, .cond _ x y => match b with | true => navK p y | false => navK p x
 | _ :: p, .block _ x => navK p x
 | _ :: p, .loop x => navK p x
 | _ :: p, .scope x => navK p x
 | _ :: _, c => c
def BestM (P : List Int → Bool) (n : Nat) (s : Int) (best : Option (List Int)) : Prop := 1 ≤ s ∧ match best with
 | none => ∀ u, 1 ≤ u → u < s → P (bitsL n u 0) = false
 | some c => Inc n 0 c ∧ P c = true ∧ 0 < c.length ∧ ∀ u, 1 ≤ u → u < s → P (bitsL n u 0) = true → (bitsL n u 0).length < c.length ∨ ((bitsL n u 0).length = c.length ∧ (bitsL n u 0 = c ∨ lexlt c (bitsL n u 0) = true))
theorem bits_zero : ∀ (k : Nat) (i : Int), bitsL k 0 i = []
 | 0, _ => rfl
 | k + 1, i => by
  have := bits_zero k (i + 1)
  rw [show bitsL (k + 1) 0 i = if (0 : Int) % 2 = 1 then i :: bitsL k (0 / 2) (i + 1) else bitsL k (0 / 2) (i + 1) from rfl]
  simpa using this
theorem bits_pos {n : Nat} {s : Int} (h0 : 1 ≤ s) (h1 : s < 2 ^ n) : 0 < (bitsL n s 0).length := by
 have := bits_val0 (n := n) (s := s) (by omega) h1
 cases h : bitsL n s 0 with
 | nil => rw [h] at this; simp [val] at this; omega
 | cons a l => simp
theorem BestM.skip {P : List Int → Bool} {n : Nat} {s : Int} {best : Option (List Int)} (h : BestM P n s best) (hp : P (bitsL n s 0) = false ∨ ∃ c, best = some c ∧ ((bitsL n s 0).length < c.length ∨ ((bitsL n s 0).length = c.length ∧ lexlt (bitsL n s 0) c = false))) : BestM P n (s + 1) best := by
 obtain ⟨h0, h⟩ := h
 refine ⟨by omega, ?_⟩
 cases best with
 | none =>
  intro u u0 u1
  by_cases e : u = s
  ·subst e
   rcases hp with hp | ⟨c, hc, _⟩
   ·exact hp
   ·cases hc
  ·exact h u u0 (by omega)
 | some c =>
  obtain ⟨h1, h2, h3, h4⟩ := h
  refine ⟨h1, h2, h3, fun u u0 u1 hu => ?_⟩
  by_cases e : u = s
  ·subst e
   rcases hp with hp | ⟨c', hc, hb⟩
   ·rw [hp] at hu; cases hu
   ·cases hc
    rcases hb with hb | ⟨hb, hl⟩
    ·exact .inl hb
    ·exact .inr ⟨hb, lexlt_total hb hl⟩
  ·exact h4 u u0 (by omega) hu
theorem BestM.take {P : List Int → Bool} {n : Nat} {s : Int} {best : Option (List Int)} (h : BestM P n s best) (h1 : s < 2 ^ n) (hp : P (bitsL n s 0) = true) (hb : ∀ c, best = some c → ¬ (bitsL n s 0).length < c.length ∧ ((bitsL n s 0).length = c.length → lexlt (bitsL n s 0) c = true)) : BestM P n (s + 1) (some (bitsL n s 0)) := by
 obtain ⟨h0, h⟩ := h
 refine ⟨by omega, bits_inc0 n s, hp, bits_pos h0 h1, fun u u0 u1 hu => ?_⟩
 by_cases e : u = s
 ·subst e; exact .inr ⟨rfl, .inl rfl⟩
 ·cases best with
  | none => rw [h u u0 (by omega)] at hu; cases hu
  | some c =>
   obtain ⟨b1, b2⟩ := hb c rfl
   rcases h.2.2.2 u u0 (by omega) hu with a | ⟨a, a2⟩
   ·exact .inl (by omega)
   ·by_cases el : (bitsL n s 0).length = c.length
    ·have hl := b2 el
     refine .inr ⟨by omega, .inr ?_⟩
     rcases a2 with a2 | a2
     ·rw [a2]; exact hl
     ·exact lexlt_trans hl a2
    ·exact .inl (by omega)
theorem BestM.last {P : List Int → Bool} {n : Nat} {best : Option (List Int)} (h : BestM P n (2 ^ n) best) : best = lastOf P n n := by
 obtain ⟨_, h⟩ := h
 have onto : ∀ d, Inc n 0 d → 0 < d.length → ∃ u : Int, 1 ≤ u ∧ u < 2 ^ n ∧ bitsL n u 0 = d := fun d hd hp => by
  obtain ⟨u, u0, u1, e⟩ := Silk.bitsL_onto n 0 d (by rw [Int.zero_add]; exact hd)
  refine ⟨u, ?_, u1, e⟩
  by_cases hz : u = 0
  ·subst hz; rw [bits_zero] at e; rw [← e] at hp; simp at hp
  ·omega
 rcases lastOf_spec P n n with ⟨c, e, m⟩ | ⟨e, m⟩
 ·rw [e]
  obtain ⟨u, u0, u1, rfl⟩ := onto c m.inc m.pos
  cases best with
  | none => have := m.holds; rw [h u u0 u1] at this; cases this
  | some d =>
   obtain ⟨h1, h2, h3, h4⟩ := h
   have a := h4 u u0 u1 m.holds
   have hd := h1.len (by omega)
   have b := m.max d h1 h2 (by omega)
   rcases a with a | ⟨a, a2⟩
   ·omega
   ·rcases b with b | ⟨b, b2⟩
    ·omega
    ·rcases a2 with a2 | a2
     ·rw [a2]
     ·rcases b2 with b2 | b2
      ·rw [b2]
      ·have := lexlt_trans a2 b2
       rw [lexlt_irrefl] at this; cases this
 ·rw [e]
  cases best with
  | none => rfl
  | some d =>
   obtain ⟨h1, h2, h3, h4⟩ := h
   have hd := h1.len (by omega)
   have := m d h1 h2 (by omega)
   rw [this] at h3; simp at h3
def okRow (T : Int → Int → Bool) (l : List Int) (i k : Nat) : Bool := (List.range k).all fun j => T (l.getD i 0) (l.getD j 0)
def okTo (T : Int → Int → Bool) (l : List Int) (n : Nat) : Bool := (List.range n).all fun i => okRow T l i i
theorem SlAt.elemF {h : H} {v : V} {l : List Int} (a : SlAt h v 1 (l.map encI)) {j : Nat} (hj : j < l.length) : ∃ b o cs, q_iad 1 v (.int .i64 (j : Int)) = some (.ptr b o) ∧ h.cells b = some cs ∧ nth o cs = some (.int .i64 l[j]) := by
 obtain ⟨b, o, c, cs, e1, e2, e3, _, _, e4⟩ := a.at hj
 have e5 := e4 (by omega)
 exact ⟨b, o + j * 1, cs, e3 (nat_cst j), e2, by rw [e5]; rfl⟩
theorem okRow_step (T : Int → Int → Bool) (l : List Int) (i k : Nat) : okRow T l i (k + 1) = (okRow T l i k && T (l.getD i 0) (l.getD k 0)) := by
 unfold okRow; rw [List.range_succ, List.all_append]; simp
theorem okTo_step (T : Int → Int → Bool) (l : List Int) (n : Nat) : okTo T l (n + 1) = (okTo T l n && okRow T l n n) := by
 unfold okTo; rw [List.range_succ, List.all_append]; simp
theorem getD_at {l : List Int} {i : Nat} (h : i < l.length) : l.getD i 0 = l[i] := by rw [List.getD_eq_getElem?_getD, List.getElem?_eq_getElem h, Option.getD_some]
theorem okTo_clq {T : Int → Int → Bool} (sy : ∀ x y, T x y = T y x) {l : List Int} (nd : l.Pairwise (· < ·)) : okTo T l l.length = true ↔ Clq T l := by
 unfold okTo okRow
 simp only [List.all_eq_true, List.mem_range]
 constructor
 ·intro h x hx y hy hne
  obtain ⟨i, hi, rfl⟩ := List.getElem_of_mem hx
  obtain ⟨j, hj, rfl⟩ := List.getElem_of_mem hy
  rcases Nat.lt_trichotomy i j with c | c | c
  ·have := h j hj i c
   rw [getD_at hi, getD_at hj, sy] at this; exact this
  ·subst c; exact absurd rfl hne
  ·have := h i hi j c
   rwa [getD_at hi, getD_at hj] at this
 ·intro h i hi j hj
  rw [getD_at hi, getD_at (by omega)]
  have := List.pairwise_iff_getElem.1 nd j i (by omega) hi hj
  exact h _ (List.getElem_mem hi) _ (List.getElem_mem _) (by omega)
def hasP (pc : Int) (l : List Int) : Bool := decide (pc < 0) || l.any fun r => decide (pc = r)
def mB (t : Tb) (mt : Bool) (a b : Int) : Bool := mT t a b == mt
theorem mostP_ok {t : Tb} (g : Good t) {mt : Bool} {pc : Int} {l : List Int} (nd : l.Pairwise (· < ·)) : mostP (mB t mt) (hasP pc) l = (hasP pc l && okTo (mB t mt) l l.length) := by
 have sy : ∀ x y, mB t mt x y = mB t mt y x := fun x y => by unfold mB; rw [mT_comm g]
 have h1 : mostP (mB t mt) (hasP pc) l = (hasP pc l && mostP (mB t mt) (fun _ => true) l) := by unfold mostP; simp
 rw [h1]; congr 1
 rw [Bool.eq_iff_iff, mostP_iff, okTo_clq sy nd]
theorem mB_true (t : Tb) : mB t true = mT t := by funext a b; unfold mB; simp
theorem mB_false (t : Tb) : mB t false = fun a b => !mT t a b := by funext a b; unfold mB; cases mT t a b <;> rfl
def OutAt (h : H) (y : V) (b : Option (List Int)) : Prop := match b with
 | none => y = .nils
 | some c => SlAt h y 1 (c.map encI) ∧ c.length ≤ 10
theorem OutAt.mono {h h' : H} {y : V} {b : Option (List Int)} (a : OutAt h y b) (s : h.Sub h') : OutAt h' y b := by
 cases b with
 | none => exact a
 | some c => exact ⟨a.1.mono s, a.2⟩
theorem mats_int {t : Tb} (g : Good t) (gp : t.pieces.length ≤ 9) {h0 h : H} {x : V} (a : LsOwn h0 h x (mats t t.pieces.length)) {p q : Int} (hp : 0 ≤ p ∧ p < (t.pieces.length : Int)) (hq : 0 ≤ q ∧ q < (t.pieces.length : Int)) :
  ∃ b o cs row b2 o2 cs2, q_iad 1 x (.int .i64 p) = some (.ptr b o) ∧ h.cells b = some cs ∧ nth o cs = some row ∧ q_iad 1 row (.int .i64 q) = some (.ptr b2 o2) ∧ h.cells b2 = some cs2 ∧ nth o2 cs2 = some (.bool (mT t p q)) := by
 obtain ⟨i, rfl⟩ := Int.eq_ofNat_of_zero_le hp.1
 obtain ⟨k, rfl⟩ := Int.eq_ofNat_of_zero_le hq.1
 obtain ⟨b, o, cs, row, b2, o2, cs2, m1, m2, m3, m4, m5, m6, _⟩ := mats_at gp a (show i < t.pieces.length by omega) (show k < t.pieces.length by omega)
 exact ⟨b, o, cs, row, b2, o2, cs2, m1, m2, m3, m4, m5, by rw [m6, mT_comm g]; unfold mT MM; rw [Int.toNat_natCast, Int.toNat_natCast]⟩
end Go.Ab.Tryz
set_option linter.unusedSimpArgs false
set_option linter.unusedVariables false
namespace Go.Ab.Tryz
def RowI (h : H) (v : V) (l : List Int) : Prop := SlAt h v 1 (l.map encI) ∨ (l = [] ∧ ∃ a, v = .sl0 a)
theorem RowI.mono {h h' : H} {v : V} {l : List Int} (a : RowI h v l) (s : h.Sub h') : RowI h' v l := a.imp (fun a => a.mono s) id
theorem RowI.sl {h : H} {v : V} {l : List Int} (a : RowI h v l) (hn : l ≠ []) : SlAt h v 1 (l.map encI) := a.resolve_right fun h => hn h.1
theorem RowI.lenE {h : H} {v : V} {l : List Int} (a : RowI h v l) : q_len v = some (.int .i64 (l.length : Int)) := by
 rcases a with a | ⟨rfl, x, rfl⟩
 ·exact a.lenE
 ·rfl
theorem RowI.one {h : H} {v : V} {l : List Int} (a : RowI h v l) : v.one = true := by
 rcases a with a | ⟨rfl, x, rfl⟩
 ·exact a.one
 ·rfl
theorem RowI.boundE {h : H} {v : V} {l : List Int} (a : RowI h v l) : l.length ≤ 9223372036854775807 := by
 rcases a with a | ⟨rfl, x, rfl⟩
 ·exact a.boundE
 ·simp
def RdI (h : H) (x : V) (S : List (List Int)) : Prop := ∃ xs : List V, SlAt h x 1 (xs.map fun v => [v]) ∧ xs.length = S.length ∧ ∀ i (hi : i < xs.length) (hj : i < S.length), RowI h xs[i] S[i]
theorem RdI.mono {h h' : H} {x : V} {S : List (List Int)} (a : RdI h x S) (s : h.Sub h') : RdI h' x S := by
 obtain ⟨xs, a1, a2, a3⟩ := a
 exact ⟨xs, a1.mono s, a2, fun i hi hj => (a3 i hi hj).mono s⟩
theorem RdI.len {h : H} {x : V} {S : List (List Int)} (a : RdI h x S) : q_len x = some (.int .i64 (S.length : Int)) := by
 obtain ⟨xs, a1, a2, _⟩ := a
 rw [a1.lenE, a2]
theorem RdI.bound {h : H} {x : V} {S : List (List Int)} (a : RdI h x S) : S.length ≤ 9223372036854775807 := by
 obtain ⟨xs, a1, a2, _⟩ := a
 rw [← a2]; exact a1.boundE
theorem RdI.row {h : H} {x : V} {S : List (List Int)} (a : RdI h x S) {i : Nat} (hi : i < S.length) : ∃ b o cs v, q_iad 1 x (.int .i64 (i : Int)) = some (.ptr b o) ∧ h.cells b = some cs ∧ nth o cs = some v ∧ RowI h v S[i] := by
 obtain ⟨xs, a1, a2, a3⟩ := a
 obtain ⟨b, o, c, cs, e1, e2, e3, _, _, e4⟩ := a1.at (k := i) (by omega)
 have e5 := e4 (by omega)
 exact ⟨b, o + i * 1, cs, xs[i], e3 (nat_cst i), e2, e5, a3 i (by omega) hi⟩
structure OkP (t : Tb) (l : List Int) : Prop where
 up : l.Pairwise (· < ·)
 pc : ∀ x ∈ l, 0 ≤ x ∧ x < (t.pieces.length : Int)
 go : l.Pairwise fun a b => mT t a b = true
structure SrtP (t : Tb) (S : List (List Int)) : Prop where
 ne : ∀ l ∈ S, l ≠ []
 ok : ∀ l ∈ S, OkP t l
 nd : S.flatten.Nodup
 len : S.flatten.length = t.pieces.length
noncomputable def srtB (t : Tb) (S : List (List Int)) : Bool := @decide (SrtP t S) (Classical.propDecidable _)
theorem srtB_true {t : Tb} {S : List (List Int)} (h : SrtP t S) : srtB t S = true := by unfold srtB; exact @decide_eq_true _ (Classical.propDecidable _) h
theorem srtB_false {t : Tb} {S : List (List Int)} (h : ¬ SrtP t S) : srtB t S = false := by unfold srtB; exact @decide_eq_false _ (Classical.propDecidable _) h
theorem srt_srtB {t : Tb} {S : List (List Int)} (a : Srt (mT t) t.pieces.length S) : srtB t S = true :=
 srtB_true ⟨fun l hl => a.ne l hl, fun l hl => ⟨a.up l hl, fun x hx => a.mem hl hx, a.go l hl⟩, a.all.nodup_iff.2 (upto_nodup _), a.len⟩
theorem OkP.nil (t : Tb) : OkP t [] := ⟨List.Pairwise.nil, (fun x h => by cases h), List.Pairwise.nil⟩
theorem OkP.snoc {t : Tb} (g : Good t) {l : List Int} {i : Nat} (hi : i < l.length) (a : OkP t (l.take i)) (h1 : 0 ≤ l[i] ∧ l[i] < (t.pieces.length : Int)) (h2 : ∀ j (hj : j < l.length), j + 1 = i → l[j] < l[i]) (h3 : ∀ j (hj : j < l.length), j < i → mT t l[i] l[j] = true) : OkP t (l.take (i + 1)) := by
 rw [List.take_succ_eq_append_getElem hi]
 have hmem : ∀ x ∈ l.take i, ∃ j, ∃ hj : j < l.length, j < i ∧ x = l[j] := fun x hx => by
  obtain ⟨j, hj, rfl⟩ := List.getElem_of_mem hx
  rw [List.length_take] at hj
  exact ⟨j, by omega, by omega, List.getElem_take⟩
 refine ⟨List.pairwise_append.2 ⟨a.up, by simp, fun x hx y hy => ?_⟩, fun x hx => ?_, List.pairwise_append.2 ⟨a.go, by simp, fun x hx y hy => ?_⟩⟩
 ·rw [List.mem_singleton] at hy; subst hy
  obtain ⟨j, hj, hji, rfl⟩ := hmem x hx
  by_cases e : j + 1 = i
  ·exact h2 j hj e
  ·have h5 := List.pairwise_iff_getElem.1 a.up j (i - 1) (by rw [List.length_take]; omega) (by rw [List.length_take]; omega) (by omega)
   rw [List.getElem_take, List.getElem_take] at h5
   have := h2 (i - 1) (by omega) (by omega)
   omega
 ·rcases List.mem_append.1 hx with h | h
  ·exact a.pc x h
  ·rw [List.mem_singleton] at h; subst h; exact h1
 ·rw [List.mem_singleton] at hy; subst hy
  obtain ⟨j, hj, hji, rfl⟩ := hmem x hx
  rw [mT_comm g]; exact h3 j hj hji
def seenB (pre : List Int) (n : Nat) : List V := rowB (fun p => decide ((p : Int) ∈ pre)) n
theorem seenB_put {pre : List Int} {n k : Nat} (h : k < n) : putN k [.bool true] (seenB pre n) = some (seenB (pre ++ [(k : Int)]) n) := by
 unfold seenB
 rw [rowB_put h]
 congr 1
 unfold rowB
 refine List.map_congr_left fun j hj => ?_
 dsimp only
 congr 1
 by_cases e : j = k
 ·subst e; simp
 ·rw [if_neg e, decide_eq_decide, List.mem_append, List.mem_singleton]
  exact ⟨.inl, fun h => h.elim id fun h => by omega⟩
theorem flat_split {S : List (List Int)} {k : Nat} (hk : k < S.length) : S.flatten = (S.take k).flatten ++ (S[k] ++ (S.drop (k + 1)).flatten) := by
 have e : S = S.take k ++ S[k] :: S.drop (k + 1) := by rw [List.getElem_cons_drop, List.take_append_drop]
 have f := congrArg List.flatten e
 rw [List.flatten_append, List.flatten_cons] at f
 exact f
theorem flat_take {S : List (List Int)} {k : Nat} (hk : k < S.length) : (S.take (k + 1)).flatten = (S.take k).flatten ++ S[k] := by
 rw [List.take_succ_eq_append_getElem hk, List.flatten_append]; simp
set_option maxRecDepth 4000 in
set_option maxHeartbeats 8000000 in
theorem refSorted_ev {h : H} {v y : V} {t : Tb} {S : List (List Int)} (hw : h.wf) (ht : TbIs h v t) (g : Good t) (hS : RdI h y S) (Q : V → H → Prop)
  (q : ∀ h', h.Sub h' → Q (.bool (srtB t S)) h') : Ev fnG fastA (.fn 17 [] []) [v, y] h Q := by
 have ht0 := ht
 obtain ⟨E, L, P, rfl, aE, aL, aP⟩ := ht
 have hlP := aP.lenE
 have gp := g.pieces
 have hlS := hS.len
 have hbS := hS.bound
 have s1 : h.Sub (h.add (.cells .rw [E, L, P])) := (by repeat (first | assumption | exact H.Sub.refl (by assumption) | refine H.Sub.add ?_ _ | refine H.Sub.set ?_ (by first | omega | (simp only [H.next_add, H.next_set, H.next_del] <;> omega)) (by first | omega | (simp only [H.next_add, H.next_set, H.next_del] <;> omega)) (by assumption) _))
 have g1 : (h.add (.cells .rw [E, L, P])).cells h.next = some [E, L, P] := cells_add_new rfl
 refine Ev_body (fd := c17) rfl rfl rfl ?_
 simp -implicitDefEqProofs (maxSteps := 999999) (disch := first | with_reducible rfl | omega | (simp only [nA, nS, nD] <;> omega) | fail) only [c17, go_sem]
 generalize h.add (.cells .rw [E, L, P]) = h1 at s1 g1 ⊢
 refine Matches_ev s1.wf (ht0.mono s1) g _ fun x hM oM => ?_
 have s1M : h1.Sub hM := by obtain ⟨_, a1, _⟩ := oM; exact a1.1
 have gM := s1M.cells g1
 have sM := s1.trans s1M
 have hz : repN t.pieces.length [V.bool false] = seenB [] t.pieces.length := by rw [repN_false]; unfold seenB; simp
 have sF := (H.Sub.refl s1M.wf).add (.cells .rw (seenB [] t.pieces.length))
 have gF : (hM.add (.cells .rw (seenB [] t.pieces.length))).get hM.next = some (.cells .rw (seenB [] t.pieces.length)) := get_add_new rfl
 simp -implicitDefEqProofs (maxSteps := 999999) (disch := first | with_reducible rfl | omega | (simp only [nA, nS, nD] <;> omega) | fail) only [go_sem, gM, hlP, a_msl_nn, hz]
 generalize hM.add (.cells .rw (seenB [] t.pieces.length)) = hF at sF gF ⊢
 obtain ⟨bS, eb⟩ : ∃ bS, hM.next = bS := ⟨_, rfl⟩
 rw [eb] at gF ⊢
 have bad : ∀ hh, hM.Sub hh → ¬ SrtP t S → Q (.bool false) hh := fun hh sh hn => by
  have := q hh (sM.trans sh)
  rwa [srtB_false hn] at this
 refine W_count S.length (fun k s => ∃ tm hh, s = ⟨tm, hh, []⟩ ∧ hM.Sub hh ∧ hh.get bS = some (.cells .rw (seenB (S.take k).flatten t.pieces.length)) ∧ (∀ a (ha : a < S.length), a < k → S[a] ≠ [] ∧ OkP t S[a]) ∧ (S.take k).flatten.Nodup ∧ (Opd.t 1).ev tm = y ∧ (Opd.t 2).ev tm = .ptr h.next 0 ∧ (Opd.t 5).ev tm = x ∧ (Opd.t 6).ev tm = .sl bS 0 t.pieces.length (.fix t.pieces.length) ∧ (Opd.t 7).ev tm = .int .i64 ((S.take k).flatten.length : Int) ∧ (Opd.t 8).ev tm = .int .i64 (k : Int))
  ?_ ?_ (i := 0) (Nat.zero_le _) ⟨_, _, rfl, sF, gF, fun a ha h0 => by omega, by simp, (by simp [ev_c, ev_put] <;> rfl), (by simp [ev_c, ev_put] <;> rfl), (by simp [ev_c, ev_put] <;> rfl), (by simp [ev_c, ev_put] <;> rfl), (by simp [ev_c, ev_put] <;> rfl), (by simp [ev_c, ev_put] <;> rfl)⟩
 ·rintro k s hk ⟨tm, hh, rfl, sh, gB, hdone, hnd, t1, t2, t5, t6, t7, t8⟩
  have hk' : (k : Int) < (S.length : Int) := by omega
  obtain ⟨l, el⟩ : ∃ l, S[k] = l := ⟨_, rfl⟩
  have hlS' : l ∈ S := by rw [← el]; exact List.getElem_mem hk
  obtain ⟨bR, oR, csR, vR, r1, r2, r3, r4⟩ := (hS.mono sM).row hk
  rw [el] at r4
  have lR := r4.lenE
  have bl := r4.boundE
  obtain ⟨pre, epre⟩ : ∃ pre, (S.take k).flatten = pre := ⟨_, rfl⟩
  have hfl := flat_split hk
  have hft := flat_take hk
  rw [epre, el] at hfl hft
  rw [epre] at gB hnd t7
  have hpre : ∀ z ∈ pre, 0 ≤ z ∧ z < (t.pieces.length : Int) := fun z hz => by
   rw [← epre] at hz
   obtain ⟨m, hm, hzm⟩ := List.mem_flatten.1 hz
   obtain ⟨a, ha, rfl⟩ := List.getElem_of_mem hm
   rw [List.length_take] at ha
   rw [List.getElem_take] at hzm
   exact (hdone a (by omega) (by omega)).2.pc z hzm
  by_cases hl0 : l.length = 0
  ·have hl0' : (l.length : Int) = 0 := by omega
   simp -implicitDefEqProofs (maxSteps := 999999) (disch := first | with_reducible rfl | omega | (simp only [nA, nS, nD] <;> omega) | fail) only [go_sem, t1, t2, t5, t6, t7, t8, hlS, hk', r1, sh.cells r2, r3, lR, hl0']
   exact bad _ sh fun a => a.ne l hlS' (List.length_eq_zero_iff.1 hl0)
  ·have hl0' : ¬ (l.length : Int) = 0 := by omega
   have r4 := r4.sl fun h => hl0 (by rw [h]; rfl)
   simp -implicitDefEqProofs (maxSteps := 999999) (disch := first | with_reducible rfl | omega | (simp only [nA, nS, nD] <;> omega) | fail) only [go_sem, t1, t2, t5, t6, t7, t8, hlS, hk', r1, sh.cells r2, r3, lR, hl0']
   refine W.mono (Q := fun x1 s => (x1 = .ret ∧ ¬ SrtP t S ∧ ∃ tm hq, s = ⟨tm, hq, []⟩ ∧ hM.Sub hq ∧ (Opd.t 4).ev tm = .bool false) ∨ (x1 = .ext 2 ∧ OkP t l ∧ (pre ++ l).Nodup ∧ ∃ tm hq, s = ⟨tm, hq, []⟩ ∧ hM.Sub hq ∧ hq.get bS = some (.cells .rw (seenB (pre ++ l) t.pieces.length)) ∧ (Opd.t 1).ev tm = y ∧ (Opd.t 2).ev tm = .ptr h.next 0 ∧ (Opd.t 5).ev tm = x ∧ (Opd.t 6).ev tm = .sl bS 0 t.pieces.length (.fix t.pieces.length) ∧ (Opd.t 7).ev tm = .int .i64 ((pre ++ l).length : Int) ∧ (Opd.t 8).ev tm = .int .i64 (k : Int)))
    (W_count l.length (fun i s => ∃ tm hq, s = ⟨tm, hq, []⟩ ∧ hM.Sub hq ∧ hq.get bS = some (.cells .rw (seenB (pre ++ l.take i) t.pieces.length)) ∧ OkP t (l.take i) ∧ (pre ++ l.take i).Nodup ∧ (Opd.t 1).ev tm = y ∧ (Opd.t 2).ev tm = .ptr h.next 0 ∧ (Opd.t 5).ev tm = x ∧ (Opd.t 6).ev tm = .sl bS 0 t.pieces.length (.fix t.pieces.length) ∧ (Opd.t 7).ev tm = .int .i64 ((pre ++ l.take i).length : Int) ∧ (Opd.t 8).ev tm = .int .i64 (k : Int) ∧ (Opd.t 9).ev tm = .int .i64 (i : Int))
    ?_ ?_ (i := 0) (Nat.zero_le _) ⟨_, _, rfl, sh, by simpa using gB, by simpa using OkP.nil t, by simpa using hnd, (by simp [ev_c, ev_put, t1] <;> rfl), (by simp [ev_c, ev_put, t2] <;> rfl), (by simp [ev_c, ev_put, t5] <;> rfl), (by simp [ev_c, ev_put, t6] <;> rfl), by rw [List.take_zero, List.append_nil]; exact (by simp [ev_c, ev_put, t7] <;> rfl), (by simp [ev_c, ev_put, t8] <;> rfl), (by simp [ev_c, ev_put] <;> rfl)⟩) fun x1 s hx1 => ?_
   ·clear t1 t2 t5 t6 t7 t8 gB sh
    rintro i s hi ⟨tm, hq, rfl, sq, gB, ok, nd, t1, t2, t5, t6, t7, t8, t9⟩
    have hi' : (i : Int) < (l.length : Int) := by omega
    have r2q := sq.cells r2
    have r4q := r4.mono sq
    obtain ⟨bA, oA, csA, f1, f2, f3⟩ := SlAt.elemF r4q hi
    have lcnt : (pre ++ l.take i).length ≤ t.pieces.length := nodup_len nd fun z hz => (List.mem_append.1 hz).elim (hpre z) (ok.pc z)
    have wm : wr .i64 ((t.pieces.length : Int) - 1) = (t.pieces.length : Int) - 1 := wr_in (by omega) (by omega)
    have wc : wr .i64 (((pre ++ l.take i).length : Int) + 1) = (((pre ++ l.take i).length + 1 : Nat) : Int) := by rw [wr_in (by omega) (by omega)]; omega
    have hlm : l[i] ∈ l := List.getElem_mem hi
    by_cases hin : 0 ≤ l[i] ∧ l[i] < (t.pieces.length : Int)
    ·have eb : inB l[i] 0 ((t.pieces.length : Int) - 1) = true := by unfold inB; rw [decide_eq_true_eq]; omega
     obtain ⟨p, ep⟩ := Int.eq_ofNat_of_zero_le hin.1
     have hp : p < t.pieces.length := by omega
     rw [ep] at f3 eb
     have hsn : nth p (seenB (pre ++ l.take i) t.pieces.length) = some (.bool (decide ((p : Int) ∈ pre ++ l.take i))) := rowB_nth hp
     cases hse : decide ((p : Int) ∈ pre ++ l.take i)
     ·rw [hse] at hsn
      have hns : (p : Int) ∉ pre ++ l.take i := of_decide_eq_false hse
      have hput := seenB_put (pre := pre ++ l.take i) hp
      rw [List.append_assoc, ← ep, ← List.take_succ_eq_append_getElem hi] at hput
      have nd2 : (pre ++ l.take (i + 1)).Nodup := by
       rw [List.take_succ_eq_append_getElem hi, ← List.append_assoc, ep]
       refine List.nodup_append.2 ⟨nd, by simp, fun a ha b hb => ?_⟩
       rw [List.mem_singleton] at hb
       rintro rfl
       rw [hb] at ha; exact hns ha
      have lc2 : (pre ++ l.take (i + 1)).length = (pre ++ l.take i).length + 1 := by
       rw [List.take_succ_eq_append_getElem hi, ← List.append_assoc, List.length_append (bs := [l[i]])]; rfl
      -- what comes behind the tests
      obtain ⟨R, hR⟩ : ∃ R : C, navK [true, true, true, true, false, true, true, true, true, false, true, true, true, true, true, true, false, true, true, true] c17.body = R := ⟨_, rfl⟩
      have tail : (∀ j (hj : j < l.length), j + 1 = i → l[j] < l[i]) → ∀ tm : Go.Ab.T V, (Opd.t 1).ev tm = y → (Opd.t 2).ev tm = .ptr h.next 0 → (Opd.t 5).ev tm = x → (Opd.t 6).ev tm = .sl bS 0 t.pieces.length (.fix t.pieces.length) → (Opd.t 7).ev tm = .int .i64 ((pre ++ l.take i).length : Int) → (Opd.t 8).ev tm = .int .i64 (k : Int) → (Opd.t 9).ev tm = .int .i64 (i : Int) → (Opd.t 10).ev tm = .int .i64 (p : Int) →
        W fnG fastA 101 17 none R ⟨tm, hq, []⟩ fun x1 s => (x1 = .ret ∧ ¬ SrtP t S ∧ ∃ tm hz, s = ⟨tm, hz, []⟩ ∧ hM.Sub hz ∧ (Opd.t 4).ev tm = .bool false) ∨ (x1 = .nrm ∧ OkP t (l.take (i + 1)) ∧ ∃ tm hz, s = ⟨tm, hz, []⟩ ∧ hM.Sub hz ∧ hz.get bS = some (.cells .rw (seenB (pre ++ l.take (i + 1)) t.pieces.length)) ∧ (Opd.t 1).ev tm = y ∧ (Opd.t 2).ev tm = .ptr h.next 0 ∧ (Opd.t 5).ev tm = x ∧ (Opd.t 6).ev tm = .sl bS 0 t.pieces.length (.fix t.pieces.length) ∧ (Opd.t 7).ev tm = .int .i64 ((pre ++ l.take (i + 1)).length : Int) ∧ (Opd.t 8).ev tm = .int .i64 (k : Int) ∧ (Opd.t 9).ev tm = .int .i64 (i : Int)) := by
       clear t1 t2 t5 t6 t7 t8 t9
       intro hup tm t1 t2 t5 t6 t7 t8 t9 t10
       subst hR
       have ltb := sq.wf _ _ gB
       have sZ := sq.set (b := bS) (by omega) ltb s1M.wf (.cells .rw (seenB (pre ++ l.take (i + 1)) t.pieces.length))
       have gZ : (hq.set bS (.cells .rw (seenB (pre ++ l.take (i + 1)) t.pieces.length))).get bS = some (.cells .rw (seenB (pre ++ l.take (i + 1)) t.pieces.length)) := get_set_same rfl
       simp -implicitDefEqProofs (maxSteps := 999999) (disch := first | with_reducible rfl | omega | (simp only [nA, nS, nD] <;> omega) | fail) only [navK, c17, go_sem, t1, t2, t5, t6, t7, t8, t9, t10, q_iad_sl (nat_cst p) hp, Nat.mul_one, gB, hput, wc, ← lc2]
       generalize hq.set bS (.cells .rw (seenB (pre ++ l.take (i + 1)) t.pieces.length)) = hz at sZ gZ ⊢
       have r2z := sZ.cells r2
       have r4z := r4.mono sZ
       have oMz := oM.mono sZ
       refine W.mono (Q := fun x1 s => (x1 = .ret ∧ ¬ SrtP t S ∧ ∃ tm, s = ⟨tm, hz, []⟩ ∧ (Opd.t 4).ev tm = .bool false) ∨ (x1 = .ext 4 ∧ (∀ m (hm : m < l.length), m < i → mT t l[i] l[m] = true) ∧ ∃ tm, s = ⟨tm, hz, []⟩ ∧ (Opd.t 1).ev tm = y ∧ (Opd.t 2).ev tm = .ptr h.next 0 ∧ (Opd.t 5).ev tm = x ∧ (Opd.t 6).ev tm = .sl bS 0 t.pieces.length (.fix t.pieces.length) ∧ (Opd.t 7).ev tm = .int .i64 ((pre ++ l.take (i + 1)).length : Int) ∧ (Opd.t 8).ev tm = .int .i64 (k : Int) ∧ (Opd.t 9).ev tm = .int .i64 (i : Int)))
        (W_count i (fun m s => ∃ tm, s = ⟨tm, hz, []⟩ ∧ (∀ m' (hm : m' < l.length), m' < m → mT t l[i] l[m'] = true) ∧ (Opd.t 1).ev tm = y ∧ (Opd.t 2).ev tm = .ptr h.next 0 ∧ (Opd.t 5).ev tm = x ∧ (Opd.t 6).ev tm = .sl bS 0 t.pieces.length (.fix t.pieces.length) ∧ (Opd.t 7).ev tm = .int .i64 ((pre ++ l.take (i + 1)).length : Int) ∧ (Opd.t 8).ev tm = .int .i64 (k : Int) ∧ (Opd.t 9).ev tm = .int .i64 (i : Int) ∧ (Opd.t 10).ev tm = .int .i64 (p : Int) ∧ (Opd.t 11).ev tm = .int .i64 (m : Int))
        ?_ ?_ (i := 0) (Nat.zero_le _) ⟨_, rfl, fun m hm h0 => by omega, (by simp [ev_c, ev_put, t1] <;> rfl), (by simp [ev_c, ev_put, t2] <;> rfl), (by simp [ev_c, ev_put, t5] <;> rfl), (by simp [ev_c, ev_put, t6] <;> rfl), (by simp [ev_c, ev_put] <;> rfl), (by simp [ev_c, ev_put, t8] <;> rfl), (by simp [ev_c, ev_put, t9] <;> rfl), (by simp [ev_c, ev_put, t10] <;> rfl), (by simp [ev_c, ev_put] <;> rfl)⟩) fun x1 s hx1 => ?_
       ·clear t1 t2 t5 t6 t7 t8 t9 t10
        rintro m s hm ⟨tm, rfl, hall, t1, t2, t5, t6, t7, t8, t9, t10, t11⟩
        have hm' : (m : Int) < (i : Int) := by omega
        have hml : m < l.length := by omega
        obtain ⟨bM, oM', csM, f4, f5, f6⟩ := SlAt.elemF r4z hml
        have mm : 0 ≤ l[m] ∧ l[m] < (t.pieces.length : Int) := ok.pc _ (by
         have : (l.take i)[m]'(by rw [List.length_take]; omega) = l[m] := List.getElem_take
         rw [← this]; exact List.getElem_mem _)
        obtain ⟨b, o, cs, row, b2, o2, cs2, m1, m2, m3, m4, m5, m6⟩ := mats_int g gp oMz (p := l[i]) (q := l[m]) hin mm
        rw [ep] at m1
        cases hmt : mT t l[i] l[m]
        ·rw [hmt] at m6
         have hno : ¬ SrtP t S := fun a => by
          have := List.pairwise_iff_getElem.1 (a.ok l hlS').go m i hml hi hm
          rw [mT_comm g, hmt] at this; cases this
         simp -implicitDefEqProofs (maxSteps := 999999) (disch := first | with_reducible rfl | omega | (simp only [nA, nS, nD] <;> omega) | fail) only [go_sem, t1, t2, t5, t6, t7, t8, t9, t10, t11, hm', m1, m2, m3, r1, r2z, r3, f4, f5, f6, m4, m5, m6]
         first | exact .inl ⟨rfl, hno, _, rfl, (by simp [ev_c, ev_put] <;> rfl)⟩ | exact .inl ⟨hno, _, rfl, (by simp [ev_c, ev_put] <;> rfl)⟩ | exact ⟨hno, _, rfl, (by simp [ev_c, ev_put] <;> rfl)⟩
        ·rw [hmt] at m6
         simp -implicitDefEqProofs (maxSteps := 999999) (disch := first | with_reducible rfl | omega | (simp only [nA, nS, nD] <;> omega) | fail) only [go_sem, t1, t2, t5, t6, t7, t8, t9, t10, t11, hm', m1, m2, m3, r1, r2z, r3, f4, f5, f6, m4, m5, m6, wr_succ]
         exact ⟨_, rfl, fun m' hm2 h0 => by
          by_cases e : m' = m
          ·subst e; exact hmt
          ·exact hall m' hm2 (by omega), (by simp [ev_c, ev_put, t1] <;> rfl), (by simp [ev_c, ev_put, t2] <;> rfl), (by simp [ev_c, ev_put, t5] <;> rfl), (by simp [ev_c, ev_put, t6] <;> rfl), (by simp [ev_c, ev_put, t7] <;> rfl), (by simp [ev_c, ev_put, t8] <;> rfl), (by simp [ev_c, ev_put, t9] <;> rfl), (by simp [ev_c, ev_put, t10] <;> rfl), (by simp [ev_c, ev_put] <;> rfl)⟩
       ·clear t1 t2 t5 t6 t7 t8 t9 t10
        rintro s ⟨tm, rfl, hall, t1, t2, t5, t6, t7, t8, t9, t10, t11⟩
        simp -implicitDefEqProofs (maxSteps := 999999) (disch := first | with_reducible rfl | omega | (simp only [nA, nS, nD] <;> omega) | fail) only [go_sem, t1, t2, t5, t6, t7, t8, t9, t10, t11, Int.lt_irrefl]
        first | exact .inr ⟨rfl, hall, _, rfl, (by simp [ev_c, ev_put, t1] <;> rfl), (by simp [ev_c, ev_put, t2] <;> rfl), (by simp [ev_c, ev_put, t5] <;> rfl), (by simp [ev_c, ev_put, t6] <;> rfl), (by simp [ev_c, ev_put, t7] <;> rfl), (by simp [ev_c, ev_put, t8] <;> rfl), (by simp [ev_c, ev_put, t9] <;> rfl)⟩ | exact .inr ⟨hall, _, rfl, (by simp [ev_c, ev_put, t1] <;> rfl), (by simp [ev_c, ev_put, t2] <;> rfl), (by simp [ev_c, ev_put, t5] <;> rfl), (by simp [ev_c, ev_put, t6] <;> rfl), (by simp [ev_c, ev_put, t7] <;> rfl), (by simp [ev_c, ev_put, t8] <;> rfl), (by simp [ev_c, ev_put, t9] <;> rfl)⟩ | exact ⟨hall, _, rfl, (by simp [ev_c, ev_put, t1] <;> rfl), (by simp [ev_c, ev_put, t2] <;> rfl), (by simp [ev_c, ev_put, t5] <;> rfl), (by simp [ev_c, ev_put, t6] <;> rfl), (by simp [ev_c, ev_put, t7] <;> rfl), (by simp [ev_c, ev_put, t8] <;> rfl), (by simp [ev_c, ev_put, t9] <;> rfl)⟩
       clear t1 t2 t5 t6 t7 t8 t9 t10
       rcases hx1 with ⟨rfl, hno, tm, rfl, t4⟩ | ⟨rfl, hall, tm, rfl, t1, t2, t5, t6, t7, t8, t9⟩
       ·simp -implicitDefEqProofs (maxSteps := 999999) (disch := first | with_reducible rfl | omega | (simp only [nA, nS, nD] <;> omega) | fail) only [go_sem, t4]
        first | exact .inl ⟨rfl, hno, _, _, rfl, sZ, (by simp [ev_c, ev_put, t4] <;> rfl)⟩ | exact .inl ⟨hno, _, _, rfl, sZ, (by simp [ev_c, ev_put, t4] <;> rfl)⟩ | exact ⟨hno, _, _, rfl, sZ, (by simp [ev_c, ev_put, t4] <;> rfl)⟩
       ·simp -implicitDefEqProofs (maxSteps := 999999) (disch := first | with_reducible rfl | omega | (simp only [nA, nS, nD] <;> omega) | fail) only [go_sem, t1, t2, t5, t6, t7, t8, t9]
        have ok2 := ok.snoc g hi hin hup hall
        first | exact .inr ⟨rfl, ok2, _, _, rfl, sZ, gZ, (by simp [ev_c, ev_put, t1] <;> rfl), (by simp [ev_c, ev_put, t2] <;> rfl), (by simp [ev_c, ev_put, t5] <;> rfl), (by simp [ev_c, ev_put, t6] <;> rfl), (by simp [ev_c, ev_put, t7] <;> rfl), (by simp [ev_c, ev_put, t8] <;> rfl), (by simp [ev_c, ev_put, t9] <;> rfl)⟩ | exact .inr ⟨ok2, _, _, rfl, sZ, gZ, (by simp [ev_c, ev_put, t1] <;> rfl), (by simp [ev_c, ev_put, t2] <;> rfl), (by simp [ev_c, ev_put, t5] <;> rfl), (by simp [ev_c, ev_put, t6] <;> rfl), (by simp [ev_c, ev_put, t7] <;> rfl), (by simp [ev_c, ev_put, t8] <;> rfl), (by simp [ev_c, ev_put, t9] <;> rfl)⟩ | exact ⟨ok2, _, _, rfl, sZ, gZ, (by simp [ev_c, ev_put, t1] <;> rfl), (by simp [ev_c, ev_put, t2] <;> rfl), (by simp [ev_c, ev_put, t5] <;> rfl), (by simp [ev_c, ev_put, t6] <;> rfl), (by simp [ev_c, ev_put, t7] <;> rfl), (by simp [ev_c, ev_put, t8] <;> rfl), (by simp [ev_c, ev_put, t9] <;> rfl)⟩
      simp only [navK, c17] at hR
      rw [hR]
      cases i with
      | zero =>
       have z1 : ¬ (0 : Int) < ((0 : Nat) : Int) := by omega
       simp -implicitDefEqProofs (maxSteps := 999999) (disch := first | with_reducible rfl | omega | (simp only [nA, nS, nD] <;> omega) | fail) only [go_sem, t1, t2, t5, t6, t7, t8, t9, hi', r1, r2q, r3, lR, f1, f2, f3, off_ev, wm, eb, q_iad_sl (nat_cst p) hp, Nat.mul_one, cells_of gB, hsn, z1]
       refine (tail (fun j hj h0 => by omega) _ (by simp [ev_c, ev_put, t1] <;> rfl) (by simp [ev_c, ev_put, t2] <;> rfl) (by simp [ev_c, ev_put, t5] <;> rfl) (by simp [ev_c, ev_put, t6] <;> rfl) (by simp [ev_c, ev_put, t7] <;> rfl) (by simp [ev_c, ev_put, t8] <;> rfl) (by simp [ev_c, ev_put, t9] <;> rfl) (by simp [ev_c, ev_put] <;> rfl)).mono fun x1 s hx1 => ?_
       rcases hx1 with ⟨rfl, hno, tm, hz, rfl, sz, t4⟩ | ⟨rfl, ok2, tm, hz, rfl, sz, gz, t1, t2, t5, t6, t7, t8, t9⟩
       ·simp -implicitDefEqProofs (maxSteps := 999999) (disch := first | with_reducible rfl | omega | (simp only [nA, nS, nD] <;> omega) | fail) only [go_sem, t4]
        first | exact .inl ⟨rfl, hno, _, _, rfl, sz, (by simp [ev_c, ev_put, t4] <;> rfl)⟩ | exact .inl ⟨hno, _, _, rfl, sz, (by simp [ev_c, ev_put, t4] <;> rfl)⟩ | exact ⟨hno, _, _, rfl, sz, (by simp [ev_c, ev_put, t4] <;> rfl)⟩
       ·simp -implicitDefEqProofs (maxSteps := 999999) (disch := first | with_reducible rfl | omega | (simp only [nA, nS, nD] <;> omega) | fail) only [go_sem, t1, t2, t5, t6, t7, t8, t9, wr_succ]
        exact ⟨_, _, rfl, sz, gz, ok2, nd2, (by simp [ev_c, ev_put, t1] <;> rfl), (by simp [ev_c, ev_put, t2] <;> rfl), (by simp [ev_c, ev_put, t5] <;> rfl), (by simp [ev_c, ev_put, t6] <;> rfl), (by simp [ev_c, ev_put, t7] <;> rfl), (by simp [ev_c, ev_put, t8] <;> rfl), (by simp [ev_c, ev_put] <;> rfl)⟩
      | succ j =>
       have z1 : (0 : Int) < ((j + 1 : Nat) : Int) := by omega
       have z4 : wr .i64 (((j + 1 : Nat) : Int) - 1) = (j : Int) := by rw [wr_in (by omega) (by omega)]; omega
       obtain ⟨b2, o2, cs2, u1, u2, u3⟩ := SlAt.elemF r4q (show j < l.length by omega)
       by_cases hle : l[j + 1] ≤ l[j]
       ·have hno : ¬ SrtP t S := fun a => by
         have := List.pairwise_iff_getElem.1 (a.ok l hlS').up j (j + 1) (by omega) hi (by omega); omega
        rw [ep] at hle
        simp -implicitDefEqProofs (maxSteps := 999999) (disch := first | with_reducible rfl | omega | (simp only [nA, nS, nD] <;> omega) | fail) only [go_sem, t1, t2, t5, t6, t7, t8, t9, hi', r1, r2q, r3, lR, f1, f2, f3, off_ev, wm, eb, q_iad_sl (nat_cst p) hp, Nat.mul_one, cells_of gB, hsn, z1, z4, u1, u2, u3, hle]
        first | exact .inl ⟨rfl, hno, _, _, rfl, sq, (by simp [ev_c, ev_put] <;> rfl)⟩ | exact .inl ⟨hno, _, _, rfl, sq, (by simp [ev_c, ev_put] <;> rfl)⟩ | exact ⟨hno, _, _, rfl, sq, (by simp [ev_c, ev_put] <;> rfl)⟩
       ·have hup : ∀ j' (hj : j' < l.length), j' + 1 = j + 1 → l[j'] < l[j + 1] := fun j' hj h0 => by
         have : j' = j := by omega
         subst this; omega
        rw [ep] at hle
        simp -implicitDefEqProofs (maxSteps := 999999) (disch := first | with_reducible rfl | omega | (simp only [nA, nS, nD] <;> omega) | fail) only [go_sem, t1, t2, t5, t6, t7, t8, t9, hi', r1, r2q, r3, lR, f1, f2, f3, off_ev, wm, eb, q_iad_sl (nat_cst p) hp, Nat.mul_one, cells_of gB, hsn, z1, z4, u1, u2, u3, hle]
        refine (tail hup _ (by simp [ev_c, ev_put, t1] <;> rfl) (by simp [ev_c, ev_put, t2] <;> rfl) (by simp [ev_c, ev_put, t5] <;> rfl) (by simp [ev_c, ev_put, t6] <;> rfl) (by simp [ev_c, ev_put, t7] <;> rfl) (by simp [ev_c, ev_put, t8] <;> rfl) (by simp [ev_c, ev_put, t9] <;> rfl) (by simp [ev_c, ev_put] <;> rfl)).mono fun x1 s hx1 => ?_
        rcases hx1 with ⟨rfl, hno, tm, hz, rfl, sz, t4⟩ | ⟨rfl, ok2, tm, hz, rfl, sz, gz, t1, t2, t5, t6, t7, t8, t9⟩
        ·simp -implicitDefEqProofs (maxSteps := 999999) (disch := first | with_reducible rfl | omega | (simp only [nA, nS, nD] <;> omega) | fail) only [go_sem, t4]
         first | exact .inl ⟨rfl, hno, _, _, rfl, sz, (by simp [ev_c, ev_put, t4] <;> rfl)⟩ | exact .inl ⟨hno, _, _, rfl, sz, (by simp [ev_c, ev_put, t4] <;> rfl)⟩ | exact ⟨hno, _, _, rfl, sz, (by simp [ev_c, ev_put, t4] <;> rfl)⟩
        ·simp -implicitDefEqProofs (maxSteps := 999999) (disch := first | with_reducible rfl | omega | (simp only [nA, nS, nD] <;> omega) | fail) only [go_sem, t1, t2, t5, t6, t7, t8, t9, wr_succ]
         exact ⟨_, _, rfl, sz, gz, ok2, nd2, (by simp [ev_c, ev_put, t1] <;> rfl), (by simp [ev_c, ev_put, t2] <;> rfl), (by simp [ev_c, ev_put, t5] <;> rfl), (by simp [ev_c, ev_put, t6] <;> rfl), (by simp [ev_c, ev_put, t7] <;> rfl), (by simp [ev_c, ev_put, t8] <;> rfl), (by simp [ev_c, ev_put] <;> rfl)⟩
     ·rw [hse] at hsn
      have hps := of_decide_eq_true hse
      have hno : ¬ SrtP t S := fun a => by
       have h1 := a.nd
       rw [hfl, ← List.append_assoc] at h1
       have h2 := (List.nodup_append.1 h1).1
       have h3 : l = l.take i ++ (l[i] :: l.drop (i + 1)) := by rw [List.getElem_cons_drop, List.take_append_drop]
       rw [h3, ← List.append_assoc] at h2
       exact (List.nodup_append.1 h2).2.2 _ hps l[i] (List.mem_cons_self ..) ep.symm
      simp -implicitDefEqProofs (maxSteps := 999999) (disch := first | with_reducible rfl | omega | (simp only [nA, nS, nD] <;> omega) | fail) only [go_sem, t1, t2, t5, t6, t7, t8, t9, hi', r1, r2q, r3, lR, f1, f2, f3, off_ev, wm, eb, q_iad_sl (nat_cst p) hp, Nat.mul_one, cells_of gB, hsn]
      first | exact .inl ⟨rfl, hno, _, _, rfl, sq, (by simp [ev_c, ev_put] <;> rfl)⟩ | exact .inl ⟨hno, _, _, rfl, sq, (by simp [ev_c, ev_put] <;> rfl)⟩ | exact ⟨hno, _, _, rfl, sq, (by simp [ev_c, ev_put] <;> rfl)⟩
    ·have eb : inB l[i] 0 ((t.pieces.length : Int) - 1) = false := by unfold inB; rw [decide_eq_false_iff_not]; omega
     have hno : ¬ SrtP t S := fun a => hin ((a.ok l hlS').pc _ hlm)
     simp -implicitDefEqProofs (maxSteps := 999999) (disch := first | with_reducible rfl | omega | (simp only [nA, nS, nD] <;> omega) | fail) only [go_sem, t1, t2, t5, t6, t7, t8, t9, hi', r1, r2q, r3, lR, f1, f2, f3, off_ev, wm, eb]
     first | exact .inl ⟨rfl, hno, _, _, rfl, sq, (by simp [ev_c, ev_put] <;> rfl)⟩ | exact .inl ⟨hno, _, _, rfl, sq, (by simp [ev_c, ev_put] <;> rfl)⟩ | exact ⟨hno, _, _, rfl, sq, (by simp [ev_c, ev_put] <;> rfl)⟩
   ·clear t1 t2 t5 t6 t7 t8 gB sh
    rintro s ⟨tm, hq, rfl, sq, gB, ok, nd, t1, t2, t5, t6, t7, t8, t9⟩
    rw [List.take_length] at gB ok nd t7
    simp -implicitDefEqProofs (maxSteps := 999999) (disch := first | with_reducible rfl | omega | (simp only [nA, nS, nD] <;> omega) | fail) only [go_sem, t1, t2, t5, t6, t7, t8, t9, r1, sq.cells r2, r3, lR, Int.lt_irrefl]
    first | exact .inr ⟨rfl, ok, nd, _, _, rfl, sq, gB, (by simp [ev_c, ev_put, t1] <;> rfl), (by simp [ev_c, ev_put, t2] <;> rfl), (by simp [ev_c, ev_put, t5] <;> rfl), (by simp [ev_c, ev_put, t6] <;> rfl), (by simp [ev_c, ev_put, t7] <;> rfl), (by simp [ev_c, ev_put, t8] <;> rfl)⟩ | exact .inr ⟨ok, nd, _, _, rfl, sq, gB, (by simp [ev_c, ev_put, t1] <;> rfl), (by simp [ev_c, ev_put, t2] <;> rfl), (by simp [ev_c, ev_put, t5] <;> rfl), (by simp [ev_c, ev_put, t6] <;> rfl), (by simp [ev_c, ev_put, t7] <;> rfl), (by simp [ev_c, ev_put, t8] <;> rfl)⟩ | exact ⟨ok, nd, _, _, rfl, sq, gB, (by simp [ev_c, ev_put, t1] <;> rfl), (by simp [ev_c, ev_put, t2] <;> rfl), (by simp [ev_c, ev_put, t5] <;> rfl), (by simp [ev_c, ev_put, t6] <;> rfl), (by simp [ev_c, ev_put, t7] <;> rfl), (by simp [ev_c, ev_put, t8] <;> rfl)⟩
   clear t1 t2 t5 t6 t7 t8 gB sh
   rcases hx1 with ⟨rfl, hno, tm, hq, rfl, sq, t4⟩ | ⟨rfl, ok, nd, tm, hq, rfl, sq, gB, t1, t2, t5, t6, t7, t8⟩
   ·simp -implicitDefEqProofs (maxSteps := 999999) (disch := first | with_reducible rfl | omega | (simp only [nA, nS, nD] <;> omega) | fail) only [go_sem, t4]
    exact bad _ sq hno
   ·simp -implicitDefEqProofs (maxSteps := 999999) (disch := first | with_reducible rfl | omega | (simp only [nA, nS, nD] <;> omega) | fail) only [go_sem, t1, t2, t5, t6, t7, t8, wr_succ]
    exact ⟨_, _, rfl, sq, by rw [hft]; exact gB, fun a ha h0 => by
     by_cases e : a = k
     ·subst e; rw [el]; exact ⟨fun h => hl0 (by rw [h]; rfl), ok⟩
     ·exact hdone a ha (by omega), by rw [hft]; exact nd, (by simp [ev_c, ev_put, t1] <;> rfl), (by simp [ev_c, ev_put, t2] <;> rfl), (by simp [ev_c, ev_put, t5] <;> rfl), (by simp [ev_c, ev_put, t6] <;> rfl), by rw [hft]; exact (by simp [ev_c, ev_put, t7] <;> rfl), (by simp [ev_c, ev_put] <;> rfl)⟩
 ·rintro s ⟨tm, hh, rfl, sh, gB, hdone, hnd, t1, t2, t5, t6, t7, t8⟩
  rw [List.take_length] at gB hnd t7
  have e : srtB t S = decide ((S.flatten.length : Int) = (t.pieces.length : Int)) := by
   by_cases c : S.flatten.length = t.pieces.length
   ·rw [decide_eq_true (by omega)]
    exact srtB_true ⟨fun l hl => by obtain ⟨a, ha, rfl⟩ := List.getElem_of_mem hl; exact (hdone a ha ha).1, fun l hl => by obtain ⟨a, ha, rfl⟩ := List.getElem_of_mem hl; exact (hdone a ha ha).2, hnd, c⟩
   ·rw [decide_eq_false (by omega)]
    exact srtB_false fun a => c a.len
  rw [e] at q
  simp -implicitDefEqProofs (maxSteps := 999999) (disch := first | with_reducible rfl | omega | (simp only [nA, nS, nD] <;> omega) | fail) only [go_sem, t1, t2, t5, t6, t7, t8, hlS, Int.lt_irrefl]
  exact q _ (sM.trans sh)
end Go.Ab.Tryz
set_option linter.unusedSimpArgs false
set_option linter.unusedVariables false
namespace Go.Ab
theorem a_msl_nm {h : H} {by_ n m : Nat} {z : List V} (h0 : n ≤ m) (h1 : m * by_ ≤ 1099511627776) (h2 : m ≤ 1099511627776) :
  a_msl h by_ z (.int .i64 (n : Int)) (.int .i64 (m : Int)) = some (.sl h.next 0 n (.fix m), h.add (.cells .rw (repN m z))) := by
 have e1 : Nat.ble (m * by_) 1099511627776 = true := by simpa using h1
 have e2 : Nat.ble m 1099511627776 = true := by simpa using h2
 have e3 : Nat.ble n m = true := by simpa using h0
 simp only [a_msl, nat_cst, e1, e2, e3, og_true, lf_eq]
namespace Tryz
def tab (f : Int → Int) (n : Nat) : List V := (List.range n).map fun (i : Nat) => iv (f (i : Int))
def fset (f : Int → Int) (i x : Int) : Int → Int := fun k => if k = i then x else f k
theorem tab_len (f : Int → Int) (n : Nat) : (tab f n).length = n := by simp [tab]
theorem tab_nth (f : Int → Int) {n i : Nat} (h : i < n) : nth i (tab f n) = some (.int .i64 (f (i : Int))) := by
 rw [nth_get, List.getElem?_eq_getElem (by rw [tab_len]; exact h)]
 simp [tab, iv]
theorem ints_put : ∀ (l : List Int) (i : Nat) (x : Int), i < l.length → putN i [.int .i64 x] (l.map iv) = some ((l.set i x).map iv)
 | [], i, b, h => by simp at h
 | a :: l, 0, b, _ => by simp [putN_0, over_s, over_0, consV_some, iv]
 | a :: l, i + 1, b, h => by
  have ih := ints_put l i b (by simpa using h)
  simp only [List.map_cons, putN_s, ih, consV_some, List.set_cons_succ]
theorem tab_put (f : Int → Int) {n i : Nat} (h : i < n) (x : Int) : putN i [.int .i64 x] (tab f n) = some (tab (fset f (i : Int) x) n) := by
 have e : ∀ g : Int → Int, tab g n = ((List.range n).map fun (i : Nat) => g (i : Int)).map iv := fun g => by simp [tab]
 rw [e, e, ints_put _ _ _ (by simpa using h)]
 congr 2
 refine List.ext_getElem (by simp) fun k h1 h2 => ?_
 rw [List.getElem_set]
 simp only [List.getElem_map, List.getElem_range, fset]
 by_cases c : i = k
 ·subst c; simp
 ·rw [if_neg c, if_neg (by omega)]
theorem tab_zero : ∀ n : Nat, repN n [V.int .i64 0] = tab (fun _ => 0) n := fun n => by
 have : ∀ n, repN n [V.int .i64 0] = List.replicate n (iv 0) := fun n => by
  induction n with
  | zero => rfl
  | succ n ih => rw [repN, appN_eq, ih]; rfl
 rw [this]
 refine List.ext_getElem (by simp [tab]) fun k h1 h2 => ?_
 simp [tab]
theorem tab_at2 {n i : Nat} (h : i < n) (f : Int → Int) : nth i (tab f n) = some (.int .i64 (f (i : Int))) := tab_nth f h
theorem tab_st2 {n i : Nat} (h : i < n) (f : Int → Int) (x : Int) : putN i [.int .i64 x] (tab f n) = some (tab (fset f (i : Int) x) n) := tab_put f h x
end Tryz
end Go.Ab
set_option linter.unusedSimpArgs false
set_option linter.unusedVariables false
namespace Go.Ab
theorem lenE_A (l : List (Int × V)) : lenE (encA l) = l.length := by rw [lenE_eq]; simp [encA]
theorem putA_keys (i : Int) (x : V) : ∀ l : List (Int × V), (putA i x l).map Prod.fst = if i ∈ l.map Prod.fst then l.map Prod.fst else l.map Prod.fst ++ [i]
 | [] => rfl
 | p :: l => by
  have ih := putA_keys i x l
  simp only [putA]
  by_cases h : i = p.1
  ·simp [h]
  ·rw [if_neg h, List.map_cons, ih]
   by_cases h2 : i ∈ l.map Prod.fst
   ·rw [if_pos h2, if_pos (by rw [List.map_cons]; exact List.mem_cons_of_mem _ h2), List.map_cons]
   ·rw [if_neg h2, if_neg (by rw [List.map_cons, List.mem_cons]; rintro (h3 | h3); exact h h3; exact h2 h3), List.map_cons]; rfl
theorem perm_of_sub {α : Type} [DecidableEq α] : ∀ (ks pre : List α), ks.Nodup → (∀ x ∈ ks, x ∈ pre) → ks.length = pre.length → pre.Perm ks
 | [], pre, _, _, h => by
  have : pre = [] := List.length_eq_zero_iff.1 h.symm
  rw [this]
 | k :: ks, pre, nd, hs, h => by
  rw [List.nodup_cons] at nd
  have hk := hs k (by simp)
  have h1 := List.length_erase_of_mem hk
  have h2 := List.length_pos_of_mem hk
  have := perm_of_sub ks (pre.erase k) nd.2 (fun x hx => (List.mem_erase_of_ne (by rintro rfl; exact nd.1 hx)).2 (hs x (by simp [hx]))) (by simp only [List.length_cons] at h; omega)
  exact (List.perm_cons_erase hk).trans (this.cons k)
def SetAt (h : H) (b : Nat) (pre : List Int) : Prop := ∃ es : List (Int × V), h.get b = some (.map (encA es)) ∧ (es.map Prod.fst).Nodup ∧ ∀ z, z ∈ es.map Prod.fst ↔ z ∈ pre
theorem SetAt.mono {h h' : H} {b : Nat} {pre : List Int} (a : SetAt h b pre) (s : h.Sub h') : SetAt h' b pre := by
 obtain ⟨es, e, nd, hm⟩ := a
 exact ⟨es, s.get e, nd, hm⟩
theorem SetAt.cnt {h : H} {b : Nat} {pre : List Int} (a : SetAt h b pre) : ∃ n : Nat, q_lnm h (.map b) = some (.int .i64 (n : Int)) ∧ (n = pre.length ↔ pre.Nodup) := by
 obtain ⟨es, e, nd, hm⟩ := a
 refine ⟨es.length, by simp only [q_lnm, e, lenE_A]; rfl, ?_⟩
 constructor
 ·intro h
  exact (perm_of_sub (es.map Prod.fst) pre nd (fun x hx => (hm x).1 hx) (by rw [List.length_map]; exact h)).nodup_iff.2 nd
 ·intro h
  have := ((List.perm_ext_iff_of_nodup nd h).2 hm).length_eq
  rw [List.length_map] at this; exact this
theorem SetAt.put {h : H} {b : Nat} {pre : List Int} (a : SetAt h b pre) (i : Int) (x : V) {Q : V → H → Prop} (q : ∀ es, SetAt (h.set b (.map es)) b (pre ++ [i]) → Q .und (h.set b (.map es))) : P2 (muC (h.get b) h b (.int .i64 i) x) Q := by
 obtain ⟨es, e, nd, hm⟩ := a
 rw [← e_mup_map, e_mup_A e, P2_some]
 refine q _ ⟨_, get_set_same rfl, ?_, fun z => ?_⟩
 ·rw [putA_keys]
  split
  ·exact nd
  ·rename_i hn
   exact List.nodup_append.2 ⟨nd, by simp, fun a ha b hb => by
    rw [List.mem_singleton] at hb; subst hb
    rintro rfl; exact hn ha⟩
 ·rw [putA_keys]
  split
  ·rename_i hi
   rw [hm, List.mem_append, List.mem_singleton]
   exact ⟨.inl, fun h => h.elim id fun h => by subst h; exact (hm z).1 hi⟩
  ·rw [List.mem_append, List.mem_append, hm]
namespace Tryz
theorem go_iff {t : Tb} (g : Good t) {l : List Int} (hp : ∀ x ∈ l, 0 ≤ x ∧ x < (t.pieces.length : Int)) : (l.all fun p => l.all fun r => mT t p r) = true ↔ l.Pairwise fun a b => mT t a b = true := by
 simp only [List.all_eq_true]
 constructor
 ·intro h
  exact List.pairwise_iff_getElem.2 fun i j hi hj _ => h _ (List.getElem_mem hi) _ (List.getElem_mem hj)
 ·intro h x hx y hy
  obtain ⟨i, hi, rfl⟩ := List.getElem_of_mem hx
  obtain ⟨j, hj, rfl⟩ := List.getElem_of_mem hy
  have h' := List.pairwise_iff_getElem.1 h
  rcases Nat.lt_trichotomy i j with c | c | c
  ·exact h' i j hi hj c
  ·subst c
   have := hp _ hx
   unfold mT matchB
   rw [List.getElem?_eq_getElem (show l[i].toNat < t.pieces.length by omega)]
   exact alike_self g _
  ·rw [mT_comm g]; exact h' j i hj hi c
theorem sorted11_ev {h : H} {b6 bP d : Nat} {t : Tb} (g : Good t) (g6 : h.cells b6 = some [.ptr d 0]) {p : Int} (hP : h.cells bP = some [.int .i64 p]) (hd : DkAt h d t) (hp : 0 ≤ p ∧ p < (t.pieces.length : Int)) {r : Int} (hr : 0 ≤ r ∧ r < (t.pieces.length : Int)) :
  PureA h (.fn 83 [] [.ptr b6 0, .ptr bP 0]) [.int .i64 r] (.bool (mT t p r)) := by
 intro h1 hs
 obtain ⟨i, rfl⟩ := Int.eq_ofNat_of_zero_le hp.1
 obtain ⟨k, rfl⟩ := Int.eq_ofNat_of_zero_le hr.1
 refine Ev.gen fun Q q => ?_
 refine Ev_body (fd := c83) rfl rfl rfl ?_
 simp -implicitDefEqProofs (maxSteps := 999999) (disch := first | with_reducible rfl | omega | (simp only [nA, nS, nD] <;> omega) | fail) only [c83, go_sem, hs.cells g6, hs.cells hP]
 refine match_ev hs.wf (hd.mono hs) g (show i < t.pieces.length by omega) (show k < t.pieces.length by omega) _ fun h2 s2 => ?_
 simp -implicitDefEqProofs (maxSteps := 999999) (disch := first | with_reducible rfl | omega | (simp only [nA, nS, nD] <;> omega) | fail) only [go_sem]
 exact q _ _ ⟨rfl, s2⟩
theorem sorted1_ev {h : H} {b6 bL d : Nat} {vL : V} {l : List Int} {t : Tb} (g : Good t) (g6 : h.cells b6 = some [.ptr d 0]) (gL : h.cells bL = some [vL]) (aL : SlAt h vL 1 (l.map encI)) (hd : DkAt h d t) (hp : ∀ x ∈ l, 0 ≤ x ∧ x < (t.pieces.length : Int)) {p : Int} (hpp : 0 ≤ p ∧ p < (t.pieces.length : Int)) :
  PureA h (.fn 82 [] [.ptr bL 0, .ptr b6 0]) [.int .i64 p] (.bool (l.all fun r => mT t p r)) := by
 intro h1 hs
 refine Ev.gen fun Q q => ?_
 refine Ev_body (fd := c82) rfl rfl rfl ?_
 have sA := (H.Sub.refl hs.wf).add (.cells .rw [.int .i64 p])
 have gP : (h1.add (.cells .rw [.int .i64 p])).cells h1.next = some [.int .i64 p] := cells_add_new rfl
 have s1A := hs.trans sA
 simp -implicitDefEqProofs (maxSteps := 999999) (disch := first | with_reducible rfl | omega | (simp only [nA, nS, nD] <;> omega) | fail) only [c82, go_sem, hs.cells gL, s1A.cells gL]
 refine (everyInt_ev (p := fun r => mT t p r) sA.wf (aL.mono s1A) fun r hr => sorted11_ev g (s1A.cells g6) gP (hd.mono s1A) hpp (hp r hr)).mono fun u h3 hu => ?_
 obtain ⟨rfl, s3⟩ := hu
 simp -implicitDefEqProofs (maxSteps := 999999) (disch := first | with_reducible rfl | omega | (simp only [nA, nS, nD] <;> omega) | fail) only [go_sem]
 exact q _ _ ⟨rfl, sA.trans s3⟩
set_option maxRecDepth 4000 in
set_option maxHeartbeats 8000000 in
theorem Sorted_ev {h : H} {v y : V} {t : Tb} {S : List (List Int)} (hw : h.wf) (ht : TbIs h v t) (hS : RdI h y S) (hl : S.length ≤ 1000) (hll : ∀ l ∈ S, l.length ≤ 1000) (Q : V → H → Prop)
  (q : ∀ h', h.Sub h' → Q (.tup [.bool (@decide (check t = 0 ∧ SrtP t S) (Classical.propDecidable _)), .int .i64 (check t)]) h') : Ev fnG fastA (.fn 20 [] []) [v, y] h Q := by
 have ht0 := ht
 obtain ⟨E, L, P, rfl, aE, aL, aP⟩ := ht
 have hlP := aP.lenE
 have hlS := hS.len
 refine Ev_body (fd := c20) rfl rfl rfl ?_
 have s1 : h.Sub (h.add (.cells .rw [E, L, P])) := (by repeat (first | assumption | exact H.Sub.refl (by assumption) | refine H.Sub.add ?_ _ | refine H.Sub.set ?_ (by first | omega | (simp only [H.next_add, H.next_set, H.next_del] <;> omega)) (by first | omega | (simp only [H.next_add, H.next_set, H.next_del] <;> omega)) (by assumption) _))
 have g1 : (h.add (.cells .rw [E, L, P])).cells h.next = some [E, L, P] := cells_add_new rfl
 simp -implicitDefEqProofs (maxSteps := 999999) (disch := first | with_reducible rfl | omega | (simp only [nA, nS, nD] <;> omega) | fail) only [c20, go_sem]
 generalize h.add (.cells .rw [E, L, P]) = h1 at s1 g1 ⊢
 refine opened_use s1.wf (ht0.mono s1) _ (fun h5 s15 c => ?_) fun h5 d s15 c g hd => ?_
 ·have q' := fun hh (ss : h5.Sub hh) => q hh ((s1.trans s15).trans ss)
  rw [@decide_eq_false _ (Classical.propDecidable _) (fun a => c a.1)] at q'
  have ss : h5.Sub ((h5.add (.cells .rw [.nilp])).set h5.next (.cells .rw [.nilp])) := ((H.Sub.refl s15.wf).add _).set (b := h5.next) (Nat.le_refl _) (by rw [H.next_add]; omega) s15.wf _
  have ss2 : h5.Sub (h5.add (.cells .rw [.nilp])) := (H.Sub.refl s15.wf).add _
  simp -implicitDefEqProofs (maxSteps := 999999) (disch := first | with_reducible rfl | omega | (simp only [nA, nS, nD] <;> omega) | fail) only [go_sem, ne_eq, c, not_false_eq_true]
  first | exact q' _ ss | exact q' _ ss2
 have gp := g.pieces
 have s5 := s1.trans s15
 have s56 : h5.Sub (h5.add (.cells .rw [.ptr d 0])) := (H.Sub.refl s15.wf).add _
 have g6 : (h5.add (.cells .rw [.ptr d 0])).cells h5.next = some [.ptr d 0] := cells_add_new rfl
 simp -implicitDefEqProofs (maxSteps := 999999) (disch := first | with_reducible rfl | omega | (simp only [nA, nS, nD] <;> omega) | fail) only [go_sem, ne_eq, not_true_eq_false, hlS]
 have n6 : (h5.add (.cells .rw [.ptr d 0])).next = h5.next + 1 := H.next_add _ _
 generalize h5.add (.cells .rw [.ptr d 0]) = h6 at s56 g6 n6 ⊢
 have s6 := s5.trans s56
 have s16 := s15.trans s56
 rw [c] at q
 have bad : ∀ hh, h6.Sub hh → ¬ SrtP t S → Q (.tup [.bool false, .int .i64 0]) hh := fun hh sh hn => by
  have := q hh (s6.trans sh)
  rwa [@decide_eq_false _ (Classical.propDecidable _) (fun a => hn a.2)] at this
 have sF := (H.Sub.refl s56.wf).add (.map [])
 have gF : SetAt (h6.add (.map [])) h6.next [] := ⟨[], get_add_new rfl, by simp, fun z => by simp⟩
 have lF : h6.next < (h6.add (.map [])).next := by rw [H.next_add]; omega
 generalize h6.add (.map []) = hF at sF gF lF ⊢
 obtain ⟨bS, eb⟩ : ∃ bS, h5.next + 1 = bS := ⟨_, rfl⟩
 rw [n6, eb] at gF lF
 rw [eb]
 refine W_count S.length (fun k s => ∃ tm hh, s = ⟨tm, hh, []⟩ ∧ h6.Sub hh ∧ bS < hh.next ∧ SetAt hh bS (S.take k).flatten ∧ (∀ a (ha : a < S.length), a < k → S[a] ≠ [] ∧ OkP t S[a]) ∧ (S.take k).flatten.length ≤ 10 * k ∧ (Opd.t 2).ev tm = .ptr h.next 0 ∧ (Opd.t 6).ev tm = .ptr h5.next 0 ∧ (Opd.t 8).ev tm = .int .i64 ((S.take k).flatten.length : Int) ∧ (Opd.t 9).ev tm = .map bS ∧ (Opd.t 23).ev tm = y ∧ (Opd.t 24).ev tm = .int .i64 (S.length : Int) ∧ (Opd.t 25).ev tm = .int .i64 (k : Int))
  ?_ ?_ (i := 0) (Nat.zero_le _) ⟨_, _, rfl, sF, lF, gF, fun a ha h0 => by omega, by simp, (by simp [ev_c, ev_put] <;> rfl), (by simp [ev_c, ev_put] <;> rfl), (by simp [ev_c, ev_put] <;> rfl), (by simp [ev_c, ev_put] <;> rfl), (by simp [ev_c, ev_put] <;> rfl), (by simp [ev_c, ev_put] <;> rfl), (by simp [ev_c, ev_put] <;> rfl)⟩
 ·rintro k s hk ⟨tm, hh, rfl, sh, lh, gB, hdone, hcnt, t2, t6, t8, t9, t23, t24, t25⟩
  have hk' : (k : Int) < (S.length : Int) := by omega
  obtain ⟨l, el⟩ : ∃ l, S[k] = l := ⟨_, rfl⟩
  have hlS' : l ∈ S := by rw [← el]; exact List.getElem_mem hk
  have hl1000 := hll l hlS'
  obtain ⟨bR, oR, csR, vR, r1, r2, r3, r4⟩ := (hS.mono (s6.trans sh)).row hk
  rw [el] at r4
  have lR := r4.lenE
  have vR1 := r4.one
  obtain ⟨pre, epre⟩ : ∃ pre, (S.take k).flatten = pre := ⟨_, rfl⟩
  have hft := flat_take hk
  rw [epre, el] at hft
  rw [epre] at gB t8 hcnt
  have sA := (H.Sub.refl sh.wf).add (.cells .rw [vR])
  have gA : (hh.add (.cells .rw [vR])).cells hh.next = some [vR] := cells_add_new rfl
  simp -implicitDefEqProofs (maxSteps := 999999) (disch := first | with_reducible rfl | omega | (simp only [nA, nS, nD] <;> omega) | fail) only [go_sem, t2, t6, t8, t9, t23, t24, t25, hk', r1, r2, r3, vR1, cells_one vR1, lR]
  generalize hh.add (.cells .rw [vR]) = hA at sA gA ⊢
  have s6A := sh.trans sA
  have s1A := s16.trans s6A
  have g1A := s1A.cells g1
  by_cases hl0 : l.length = 0
  ·have hl0' : decide ((l.length : Int) = 0) = true := decide_eq_true (by omega)
   simp -implicitDefEqProofs (maxSteps := 999999) (disch := first | with_reducible rfl | omega | (simp only [nA, nS, nD] <;> omega) | fail) only [go_sem, t2, t6, t8, t9, t23, t24, t25, hl0', gA, g1A]
   exact bad _ s6A fun a => a.ne l hlS' (List.length_eq_zero_iff.1 hl0)
  have hl0' : decide ((l.length : Int) = 0) = false := decide_eq_false (by omega)
  have r4 := r4.sl fun h => hl0 (by rw [h]; rfl)
  simp -implicitDefEqProofs (maxSteps := 999999) (disch := first | with_reducible rfl | omega | (simp only [nA, nS, nD] <;> omega) | fail) only [go_sem, t2, t6, t8, t9, t23, t24, t25, hl0', gA, g1A]
  refine rising_ev sA.wf (r4.mono sA) hl1000 _ fun hB sB => ?_
  have s6B := s6A.trans sB
  have gAB := sB.cells gA
  have g1B := sB.cells g1A
  cases hup : decide (l.Pairwise (· < ·))
  ·simp -implicitDefEqProofs (maxSteps := 999999) (disch := first | with_reducible rfl | omega | (simp only [nA, nS, nD] <;> omega) | fail) only [go_sem, t2, t6, t8, t9, t23, t24, t25, Bool.not_false, gAB, g1B]
   exact bad _ s6B fun a => of_decide_eq_false hup (a.ok l hlS').up
  have pw := of_decide_eq_true hup
  simp -implicitDefEqProofs (maxSteps := 999999) (disch := first | with_reducible rfl | omega | (simp only [nA, nS, nD] <;> omega) | fail) only [go_sem, t2, t6, t8, t9, t23, t24, t25, Bool.not_true, gAB, g1B]
  refine (everyInt_ev (p := isPc t) sB.wf (r4.mono (sA.trans sB)) fun a _ => fun h7 s7 => Ev.gen fun Q q => Ev_bound (piece_ev s7.wf (ht0.mono (s6.trans (s6B.trans s7))) a _ fun h8 s8 => q _ _ ⟨rfl, s8⟩)).mono fun u hC hu => ?_
  obtain ⟨rfl, sC⟩ := hu
  have s6C := s6B.trans sC
  have gAC := sC.cells gAB
  have g1C := sC.cells g1B
  cases hpc : l.all (isPc t)
  ·simp -implicitDefEqProofs (maxSteps := 999999) (disch := first | with_reducible rfl | omega | (simp only [nA, nS, nD] <;> omega) | fail) only [go_sem, t2, t6, t8, t9, t23, t24, t25, Bool.not_false, gAC, g1C]
   exact bad _ s6C fun a => by
    rw [List.all_eq_false] at hpc
    obtain ⟨x, hx, h2⟩ := hpc
    have := (a.ok l hlS').pc x hx
    exact h2 (by unfold isPc; exact decide_eq_true this)
  have hin : ∀ x ∈ l, 0 ≤ x ∧ x < (t.pieces.length : Int) := fun x hx => by
   have := List.all_eq_true.1 hpc x hx
   unfold isPc at this; exact of_decide_eq_true this
  simp -implicitDefEqProofs (maxSteps := 999999) (disch := first | with_reducible rfl | omega | (simp only [nA, nS, nD] <;> omega) | fail) only [go_sem, t2, t6, t8, t9, t23, t24, t25, Bool.not_true, gAC, g1C]
  refine (everyInt_ev (p := fun p => l.all fun r => mT t p r) sC.wf (r4.mono (sA.trans (sB.trans sC))) fun a ha => sorted1_ev g (s6C.cells g6) gAC (r4.mono (sA.trans (sB.trans sC))) (hd.mono (s56.trans s6C)) hin (hin a ha)).mono fun u hD hu => ?_
  obtain ⟨rfl, sD⟩ := hu
  have s6D := s6C.trans sD
  have sAD := sB.trans (sC.trans sD)
  have gAD := sD.cells gAC
  cases hgo : l.all fun p => l.all fun r => mT t p r
  ·simp -implicitDefEqProofs (maxSteps := 999999) (disch := first | with_reducible rfl | omega | (simp only [nA, nS, nD] <;> omega) | fail) only [go_sem, t2, t6, t8, t9, t23, t24, t25, Bool.not_false, gAD]
   exact bad _ s6D fun a => by
    have := (go_iff g hin).2 (a.ok l hlS').go
    rw [hgo] at this; cases this
  have okl : OkP t l := ⟨pw, hin, (go_iff g hin).1 hgo⟩
  have l9 : l.length ≤ t.pieces.length := nodup_len (pw.imp fun h => by omega) hin
  simp -implicitDefEqProofs (maxSteps := 999999) (disch := first | with_reducible rfl | omega | (simp only [nA, nS, nD] <;> omega) | fail) only [go_sem, t2, t6, t8, t9, t23, t24, t25, Bool.not_true, gAD, lR]
  have gBD := gB.mono (sA.trans sAD)
  have lD := (sA.trans sAD).next
  have r4D := r4.mono (sA.trans sAD)
  refine W.mono (Q := fun x1 s => x1 = .ext 2 ∧ ∃ tm hq, s = ⟨tm, hq, []⟩ ∧ h6.Sub hq ∧ bS < hq.next ∧ SetAt hq bS (pre ++ l) ∧ (Opd.t 2).ev tm = .ptr h.next 0 ∧ (Opd.t 6).ev tm = .ptr h5.next 0 ∧ (Opd.t 8).ev tm = .int .i64 ((pre ++ l).length : Int) ∧ (Opd.t 9).ev tm = .map bS ∧ (Opd.t 23).ev tm = y ∧ (Opd.t 24).ev tm = .int .i64 (S.length : Int) ∧ (Opd.t 25).ev tm = .int .i64 (k : Int))
   (W_count l.length (fun i s => ∃ tm hq, s = ⟨tm, hq, []⟩ ∧ h6.Sub hq ∧ bS < hq.next ∧ SetAt hq bS (pre ++ l.take i) ∧ SlAt hq vR 1 (l.map encI) ∧ (Opd.t 2).ev tm = .ptr h.next 0 ∧ (Opd.t 6).ev tm = .ptr h5.next 0 ∧ (Opd.t 8).ev tm = .int .i64 ((pre ++ l.take i).length : Int) ∧ (Opd.t 9).ev tm = .map bS ∧ (Opd.t 23).ev tm = y ∧ (Opd.t 24).ev tm = .int .i64 (S.length : Int) ∧ (Opd.t 25).ev tm = .int .i64 (k : Int) ∧ (Opd.t 50).ev tm = vR ∧ (Opd.t 51).ev tm = .int .i64 (l.length : Int) ∧ (Opd.t 52).ev tm = .int .i64 (i : Int))
   ?_ ?_ (i := 0) (Nat.zero_le _) ⟨_, _, rfl, s6D, by omega, by simpa using gBD, r4D, (by simp [ev_c, ev_put, t2] <;> rfl), (by simp [ev_c, ev_put, t6] <;> rfl), by rw [List.take_zero, List.append_nil]; exact (by simp [ev_c, ev_put, t8] <;> rfl), (by simp [ev_c, ev_put, t9] <;> rfl), (by simp [ev_c, ev_put, t23] <;> rfl), (by simp [ev_c, ev_put, t24] <;> rfl), (by simp [ev_c, ev_put, t25] <;> rfl), (by simp [ev_c, ev_put] <;> rfl), (by simp [ev_c, ev_put] <;> rfl), (by simp [ev_c, ev_put] <;> rfl)⟩) fun x1 s hx1 => ?_
  ·clear t2 t6 t8 t9 t23 t24 t25
   rintro i s hi ⟨tm, hq, rfl, sq, lq, gq, aq, t2, t6, t8, t9, t23, t24, t25, t50, t51, t52⟩
   have hi' : (i : Int) < (l.length : Int) := by omega
   obtain ⟨b1, o1, cs1, f1, f2, f3⟩ := SlAt.elemF aq hi
   have lc : (pre ++ l.take (i + 1)).length = (pre ++ l.take i).length + 1 := by
    rw [List.take_succ_eq_append_getElem hi, ← List.append_assoc, List.length_append (bs := [l[i]])]; rfl
   have lb : (pre ++ l.take i).length ≤ 20000 := by rw [List.length_append, List.length_take]; omega
   have wc : wr .i64 (((pre ++ l.take i).length : Int) + 1) = ((pre ++ l.take (i + 1)).length : Int) := by rw [wr_in (by omega) (by omega)]; omega
   have nb : ∀ b, blkOf vR b → b ≠ bS := fun b hb e => by
    rcases aq.2.2 with ⟨rfl, _⟩ | ⟨b', o', c', cs', e1, e2, e3⟩
    ·obtain ⟨_, _, _, e⟩ := hb; cases e
    ·obtain ⟨_, _, _, e4⟩ := hb
     rw [e1] at e4; cases e4
     subst e
     rcases e2 with e2 | e2
     ·rw [List.map_eq_nil_iff] at e2; rw [e2] at hi; simp at hi
     ·obtain ⟨es, ge, _⟩ := gq
      obtain ⟨kd, hk2⟩ := H.cells_eq e2
      rw [ge] at hk2; cases hk2
   simp -implicitDefEqProofs (maxSteps := 999999) (disch := first | with_reducible rfl | omega | (simp only [nA, nS, nD] <;> omega) | fail) only [go_sem, t2, t6, t8, t9, t23, t24, t25, t50, t51, t52, hi', f1, f2, f3, wc]
   refine gq.put l[i] (.bool true) fun es gq2 => ?_
   rw [List.append_assoc, ← List.take_succ_eq_append_getElem hi] at gq2
   have k2 := Keeps.set hq bS (.map es)
   have aq2 := SlAt_keep2 aq k2 fun _ b hb => nb b hb
   have sq2 := sq.set (b := bS) (by omega) lq s56.wf (.map es)
   have lq2 : bS < (hq.set bS (.map es)).next := by rw [H.next_set]; exact lq
   simp -implicitDefEqProofs (maxSteps := 999999) (disch := first | with_reducible rfl | omega | (simp only [nA, nS, nD] <;> omega) | fail) only [go_sem, t2, t6, t8, t9, t23, t24, t25, t50, t51, t52, wr_succ]
   exact ⟨_, _, rfl, sq2, lq2, gq2, aq2, (by simp [ev_c, ev_put, t2] <;> rfl), (by simp [ev_c, ev_put, t6] <;> rfl), (by simp [ev_c, ev_put] <;> rfl), (by simp [ev_c, ev_put, t9] <;> rfl), (by simp [ev_c, ev_put, t23] <;> rfl), (by simp [ev_c, ev_put, t24] <;> rfl), (by simp [ev_c, ev_put, t25] <;> rfl), (by simp [ev_c, ev_put, t50] <;> rfl), (by simp [ev_c, ev_put, t51] <;> rfl), (by simp [ev_c, ev_put] <;> rfl)⟩
  ·clear t2 t6 t8 t9 t23 t24 t25
   rintro s ⟨tm, hq, rfl, sq, lq, gq, aq, t2, t6, t8, t9, t23, t24, t25, t50, t51, t52⟩
   rw [List.take_length] at gq t8
   simp -implicitDefEqProofs (maxSteps := 999999) (disch := first | with_reducible rfl | omega | (simp only [nA, nS, nD] <;> omega) | fail) only [go_sem, t2, t6, t8, t9, t23, t24, t25, t50, t51, t52, Int.lt_irrefl]
   exact ⟨_, _, rfl, sq, lq, gq, (by simp [ev_c, ev_put, t2] <;> rfl), (by simp [ev_c, ev_put, t6] <;> rfl), (by simp [ev_c, ev_put, t8] <;> rfl), (by simp [ev_c, ev_put, t9] <;> rfl), (by simp [ev_c, ev_put, t23] <;> rfl), (by simp [ev_c, ev_put, t24] <;> rfl), (by simp [ev_c, ev_put, t25] <;> rfl)⟩
  clear t2 t6 t8 t9 t23 t24 t25
  obtain ⟨rfl, tm, hq, rfl, sq, lq, gq, t2, t6, t8, t9, t23, t24, t25⟩ := hx1
  simp -implicitDefEqProofs (maxSteps := 999999) (disch := first | with_reducible rfl | omega | (simp only [nA, nS, nD] <;> omega) | fail) only [go_sem, t2, t6, t8, t9, t23, t24, t25, wr_succ]
  exact ⟨_, _, rfl, sq, lq, by rw [hft]; exact gq, fun a ha h0 => by
   by_cases e : a = k
   ·subst e; rw [el]; exact ⟨fun h => hl0 (by rw [h]; rfl), okl⟩
   ·exact hdone a ha (by omega), by rw [hft, List.length_append]; omega, (by simp [ev_c, ev_put, t2] <;> rfl), (by simp [ev_c, ev_put, t6] <;> rfl), by rw [hft]; exact (by simp [ev_c, ev_put, t8] <;> rfl), (by simp [ev_c, ev_put, t9] <;> rfl), (by simp [ev_c, ev_put, t23] <;> rfl), (by simp [ev_c, ev_put, t24] <;> rfl), (by simp [ev_c, ev_put] <;> rfl)⟩
 ·rintro s ⟨tm, hh, rfl, sh, lh, gB, hdone, hcnt, t2, t6, t8, t9, t23, t24, t25⟩
  rw [List.take_length] at gB t8 hcnt
  obtain ⟨m, hm1, hm2⟩ := gB.cnt
  have g1h := (s16.trans sh).cells g1
  have hok : (∀ l ∈ S, l ≠ []) ∧ (∀ l ∈ S, OkP t l) := ⟨fun l hl => by obtain ⟨a, ha, rfl⟩ := List.getElem_of_mem hl; exact (hdone a ha ha).1, fun l hl => by obtain ⟨a, ha, rfl⟩ := List.getElem_of_mem hl; exact (hdone a ha ha).2⟩
  by_cases c1 : S.flatten.length = t.pieces.length
  ·have d1 : decide ((S.flatten.length : Int) = (t.pieces.length : Int)) = true := decide_eq_true (by omega)
   by_cases c2 : S.flatten.Nodup
   ·have d2 : decide ((m : Int) = (S.flatten.length : Int)) = true := decide_eq_true (by have := hm2.2 c2; omega)
    have q' := q hh (s6.trans sh)
    rw [@decide_eq_true _ (Classical.propDecidable _) ⟨rfl, ⟨hok.1, hok.2, c2, c1⟩⟩] at q'
    simp -implicitDefEqProofs (maxSteps := 999999) (disch := first | with_reducible rfl | omega | (simp only [nA, nS, nD] <;> omega) | fail) only [go_sem, t2, t6, t8, t9, t23, t24, t25, Int.lt_irrefl, g1h, hlP, d1, hm1, d2]
    exact q'
   ·have d2 : decide ((m : Int) = (S.flatten.length : Int)) = false := decide_eq_false (by intro h; exact c2 (hm2.1 (by omega)))
    simp -implicitDefEqProofs (maxSteps := 999999) (disch := first | with_reducible rfl | omega | (simp only [nA, nS, nD] <;> omega) | fail) only [go_sem, t2, t6, t8, t9, t23, t24, t25, Int.lt_irrefl, g1h, hlP, d1, hm1, d2]
    exact bad _ sh fun a => c2 a.nd
  ·have d1 : decide ((S.flatten.length : Int) = (t.pieces.length : Int)) = false := decide_eq_false (by omega)
   simp -implicitDefEqProofs (maxSteps := 999999) (disch := first | with_reducible rfl | omega | (simp only [nA, nS, nD] <;> omega) | fail) only [go_sem, t2, t6, t8, t9, t23, t24, t25, Int.lt_irrefl, g1h, hlP, d1]
   exact bad _ sh fun a => c1 a.len
end Tryz
end Go.Ab
set_option linter.unusedSimpArgs false
set_option linter.unusedVariables false
namespace Go.Ab.Tryz
theorem LsOwn.rdI {h0 h : H} {x : V} {S : List (List Int)} (a : LsOwn h0 h x (S.map fun l => l.map encI)) (hl : S.length ≤ 1000) (hll : ∀ l ∈ S, l.length ≤ 1000) : RdI h x S := by
 obtain ⟨xs, a1, a2, a3⟩ := a
 rw [List.length_map] at a2
 refine ⟨xs, a1.sl (by simp only [List.length_map]; omega), a2, fun i hi hj => ?_⟩
 have h1 := (a3 i hi (by rw [List.length_map]; exact hj)).1
 rw [List.getElem_map] at h1
 have := hll _ (List.getElem_mem hj)
 exact .inl (h1.sl (by simp only [List.length_map]; omega))
theorem LsCut.rdI {F : Nat → Prop} {h : H} {x : V} {S : List (List Int)} (a : LsCut F h x (S.map fun l => l.map encI)) (hl : S.length ≤ 1000) (hll : ∀ l ∈ S, l.length ≤ 1000) : RdI h x S := by
 obtain ⟨xs, a1, a2, a3, _⟩ := a
 rw [List.length_map] at a2
 refine ⟨xs, a1.sl (by simp only [List.length_map]; omega), a2, fun i hi hj => ?_⟩
 have h1 := (a3 i hi (by rw [List.length_map]; exact hj)).1
 rw [List.getElem_map] at h1
 have := hll _ (List.getElem_mem hj)
 exact .inl (h1.sl (by simp only [List.length_map]; omega))
theorem equal0_ev {h : H} {x y : V} (hx : q_len x = some (.int .i64 0)) (hy : q_len y = some (.int .i64 0)) : Ev fnG fastA (.fn 86 [] []) [x, y] h fun v h' => v = .bool true ∧ h' = h := by
 refine Ev_body (fd := c86) rfl rfl rfl ?_
 have nn : ∀ n : Int, decide (n ≠ n) = false := fun n => by simp
 simp -implicitDefEqProofs (maxSteps := 999999) (disch := first | with_reducible rfl | omega | (simp only [nA, nS, nD] <;> omega) | fail) only [c86, go_sem, hx, hy, nn]
 refine W_count 0 (fun i s => ∃ tm, s = ⟨tm, h, []⟩ ∧ (Opd.t 12).ev tm = .int .i64 0 ∧ (Opd.t 13).ev tm = .int .i64 0) (fun i s hi => by omega) ?_ (i := 0) (Nat.le_refl _) ⟨_, rfl, (by simp [ev_c, ev_put] <;> rfl), (by simp [ev_c, ev_put] <;> rfl)⟩
 rintro s ⟨tm, rfl, t12, t13⟩
 simp -implicitDefEqProofs (maxSteps := 999999) (disch := first | with_reducible rfl | omega | (simp only [nA, nS, nD] <;> omega) | fail) only [go_sem, t12, t13, Int.lt_irrefl]
theorem equalI_ev {h : H} {x y : V} {l : List Int} (hx : RowI h x l) (hy : RowI h y l) : Ev fnG fastA (.fn 86 [] []) [x, y] h fun v h' => v = .bool true ∧ h' = h := by
 by_cases c : l = []
 ·have l1 := hx.lenE
  have l2 := hy.lenE
  rw [c] at l1 l2
  exact equal0_ev l1 l2
 ·refine (equalInt_ev (hx.sl c) (hy.sl c)).mono fun u h' hu => ?_
  rw [decide_eq_true rfl] at hu
  exact hu
theorem dupI_ev {h : H} {x : V} {l : List Int} (hw : h.wf) (hx : RowI h x l) (hl : l.length ≤ 1000000) (Q : V → H → Prop) :
  Ev fnG fastA (.fn 26 [] []) [x] h Q = Q (.sl h.next 0 l.length (.fix l.length)) (h.add (.cells .rw (l.map encI).flatten)) := by
 rcases hx with hx | ⟨rfl, a, rfl⟩
 ·exact dupInt_ev hw hx hl Q
 ·refine Ev.det (Ev_body (fd := c26) rfl rfl rfl ?_) Q
  have e1 : q_len (V.sl0 a) = some (.int .i64 ((0 : Nat) : Int)) := rfl
  have e2 : ∀ hh : H, e_app' hh 1 8 (.sl h.next 0 0 (.fix 0)) (.sl0 a) = some (.sl h.next 0 0 (.fix 0), hh) := fun hh => rfl
  simp -implicitDefEqProofs (maxSteps := 999999) (disch := first | with_reducible rfl | omega | (simp only [nA, nS, nD] <;> omega) | fail) only [c26, go_sem, e1, a_msl_0n, e2]
  first | rfl | simp [repN]
set_option maxHeartbeats 2000000 in
theorem eqRowsI_ev {h : H} {x y : V} {S : List (List Int)} (hw : h.wf) (hx : RdI h x S) (hy : RdI h y S) (Q : V → H → Prop) (q : ∀ h', h.Sub h' → Q (.bool true) h') :
  Ev fnG fastA (.fn 24 [] []) [x, y] h Q := by
 have lx := hx.len
 have ly := hy.len
 have hb := hx.bound
 refine Ev_body (fd := c24) rfl rfl rfl ?_
 simp -implicitDefEqProofs (maxSteps := 999999) (disch := first | with_reducible rfl | omega | (simp only [nA, nS, nD] <;> omega) | fail) only [c24, go_sem]
 refine Ev_body (fd := c90) rfl rfl rfl ?_
 have nn : ∀ n : Int, decide (n ≠ n) = false := fun n => by simp
 simp -implicitDefEqProofs (maxSteps := 999999) (disch := first | with_reducible rfl | omega | (simp only [nA, nS, nD] <;> omega) | fail) only [c90, go_sem, lx, ly, nn]
 refine W_count S.length (fun i s => ∃ tm h', s = ⟨tm, h', []⟩ ∧ h.Sub h' ∧ (Opd.t 0).ev tm = x ∧ (Opd.t 1).ev tm = y ∧ (Opd.t 2).ev tm = .fn 86 [] [] ∧ (Opd.t 15).ev tm = x ∧ (Opd.t 16).ev tm = .int .i64 (S.length : Int) ∧ (Opd.t 17).ev tm = .int .i64 (i : Int))
  ?_ ?_ (i := 0) (Nat.zero_le _) ⟨_, _, rfl, H.Sub.refl hw, (by simp [ev_c, ev_put] <;> rfl), (by simp [ev_c, ev_put] <;> rfl), (by simp [ev_c, ev_put] <;> rfl), (by simp [ev_c, ev_put] <;> rfl), (by simp [ev_c, ev_put] <;> rfl), (by simp [ev_c, ev_put] <;> rfl)⟩
 ·rintro i s hi ⟨tm, h', rfl, hs, t0, t1, t2, t15, t16, t17⟩
  have hi' : (i : Int) < (S.length : Int) := by omega
  obtain ⟨b, o, cs, v, e1, e2, e3, e4⟩ := (hx.mono hs).row hi
  obtain ⟨b', o', cs', v', f1, f2, f3, f4⟩ := (hy.mono hs).row hi
  have eq := equalI_ev e4 f4
  simp -implicitDefEqProofs (maxSteps := 999999) (disch := first | with_reducible rfl | omega | (simp only [nA, nS, nD] <;> omega) | fail) only [go_sem, t0, t1, t2, t15, t16, t17, hi', e1, e2, e3, f1, f2, f3]
  refine eq.mono fun u h2 hu => ?_
  obtain ⟨rfl, rfl⟩ := hu
  simp -implicitDefEqProofs (maxSteps := 999999) (disch := first | with_reducible rfl | omega | (simp only [nA, nS, nD] <;> omega) | fail) only [go_sem, t0, t1, t2, t15, t16, t17, Bool.not_true, wr_succ]
  exact ⟨_, _, rfl, hs, (by simp [ev_c, ev_put, t0] <;> rfl), (by simp [ev_c, ev_put, t1] <;> rfl), (by simp [ev_c, ev_put, t2] <;> rfl), (by simp [ev_c, ev_put, t15] <;> rfl), (by simp [ev_c, ev_put, t16] <;> rfl), (by simp [ev_c, ev_put] <;> rfl)⟩
 ·rintro s ⟨tm, h', rfl, hs, t0, t1, t2, t15, t16, t17⟩
  simp -implicitDefEqProofs (maxSteps := 999999) (disch := first | with_reducible rfl | omega | (simp only [nA, nS, nD] <;> omega) | fail) only [go_sem, t0, t1, t2, t15, t16, t17, Int.lt_irrefl]
  exact q _ hs
set_option maxHeartbeats 2000000 in
theorem dupRows_ev {h : H} {y : V} {S : List (List Int)} (hw : h.wf) (hS : RdI h y S) (hl : S.length ≤ 1000) (hll : ∀ l ∈ S, l.length ≤ 1000) (Q : V → H → Prop) (q : ∀ x h', h.Sub h' → x.one = true → RdI h' x S → Q x h') :
  Ev fnG fastA (.fn 12 [] []) [y] h Q := by
 have ly := hS.len
 refine Ev_body (fd := c12) rfl rfl rfl ?_
 have sA := (H.Sub.refl hw).add (.cells .rw (repN S.length [.nils]))
 have gA : (h.add (.cells .rw (repN S.length [.nils]))).get h.next = some (.cells .rw (repN S.length [.nils])) := get_add_new rfl
 have lA : (h.add (.cells .rw (repN S.length [.nils]))).next = h.next + 1 := H.next_add _ _
 simp -implicitDefEqProofs (maxSteps := 999999) (disch := first | with_reducible rfl | omega | (simp only [nA, nS, nD] <;> omega) | fail) only [c12, go_sem, ly, a_msl_0n]
 generalize h.add (.cells .rw (repN S.length [.nils])) = hA at sA gA lA ⊢
 have o0 : LsOwn h hA (.sl h.next 0 0 (.fix S.length)) (((S.take 0).map fun l => l.map encI)) := ⟨[], ⟨sA, by simp, .inr (.inr ⟨h.next, S.length, repN S.length [.nils], rfl, Nat.le_refl _, by omega, by simpa using gA, by simp [repN_len], by simp⟩)⟩, by simp, fun i hi => by simp at hi⟩
 refine W_count S.length (fun i s => ∃ tm h' x, s = ⟨tm, h', []⟩ ∧ LsOwn h h' x ((S.take i).map fun l => l.map encI) ∧ (Opd.t 3).ev tm = x ∧ (Opd.t 9).ev tm = y ∧ (Opd.t 10).ev tm = .int .i64 (S.length : Int) ∧ (Opd.t 11).ev tm = .int .i64 (i : Int))
  ?_ ?_ (i := 0) (Nat.zero_le _) ⟨_, _, _, rfl, o0, (by simp [ev_c, ev_put] <;> rfl), (by simp [ev_c, ev_put] <;> rfl), (by simp [ev_c, ev_put] <;> rfl), (by simp [ev_c, ev_put] <;> rfl)⟩
 ·rintro i s hi ⟨tm, h', x, rfl, o, t3, t9, t10, t11⟩
  have hi' : (i : Int) < (S.length : Int) := by omega
  have hs : h.Sub h' := by obtain ⟨_, a1, _⟩ := id o; exact a1.1
  obtain ⟨b, oo, cs, v, e1, e2, e3, e4⟩ := (hS.mono hs).row hi
  have hli := hll _ (List.getElem_mem hi)
  simp -implicitDefEqProofs (maxSteps := 999999) (disch := first | with_reducible rfl | omega | (simp only [nA, nS, nD] <;> omega) | fail) only [go_sem, t3, t9, t10, t11, hi', e1, e2, e3, dupI_ev hs.wf e4 (by omega)]
  have sD := (H.Sub.refl hs.wf).add (.cells .rw (S[i].map encI).flatten)
  have ov : OwnC h (h'.add (.cells .rw (S[i].map encI).flatten)) (.sl h'.next 0 S[i].length (.fix S[i].length)) 1 (S[i].map encI) := ⟨hs.trans sD, by simp [encI], .inr (.inr ⟨h'.next, S[i].length, [], by simp, hs.next, by rw [H.next_add]; omega, by rw [List.append_nil]; exact get_add_new rfl, by simp, by simp⟩)⟩
  have dv : ∀ b, blkOf (.sl h'.next 0 S[i].length (.fix S[i].length)) b → ¬ blkOf x b := fun b hb hx => by
   obtain ⟨_, _, _, e⟩ := hb
   cases e
   obtain ⟨_, a1, _⟩ := id o
   have := (a1.blk hx).2.1; omega
  have sE := sD.add (.cells .rw [.sl h'.next 0 S[i].length (.fix S[i].length)])
  have sDE := (H.Sub.refl sD.wf).add (.cells .rw [.sl h'.next 0 S[i].length (.fix S[i].length)])
  have own1 : SlAt ((h'.add (.cells .rw (S[i].map encI).flatten)).add (.cells .rw [.sl h'.next 0 S[i].length (.fix S[i].length)])) (.sl (h'.next + 1) 0 1 (.fix 1)) 1 [[.sl h'.next 0 S[i].length (.fix S[i].length)]] := SlAt.new _ (by rw [H.next_add]) rfl (by simp) (by simp) (by simp)
  refine LsOwn.push (o.mono sE) hw (by simp only [List.length_map, List.length_take]; omega) (ov.mono sDE) dv own1 fun x' h3 o3 k3 => ?_
  have eS : (S.take i).map (fun l => l.map encI) ++ [S[i].map encI] = (S.take (i + 1)).map fun l => l.map encI := by rw [List.take_succ_eq_append_getElem hi, List.map_append]; rfl
  rw [eS] at o3
  simp -implicitDefEqProofs (maxSteps := 999999) (disch := first | with_reducible rfl | omega | (simp only [nA, nS, nD] <;> omega) | fail) only [go_sem, t3, t9, t10, t11, wr_succ]
  exact ⟨_, _, x', rfl, o3, (by simp [ev_c, ev_put] <;> rfl), (by simp [ev_c, ev_put, t9] <;> rfl), (by simp [ev_c, ev_put, t10] <;> rfl), (by simp [ev_c, ev_put] <;> rfl)⟩
 ·rintro s ⟨tm, h', x, rfl, o, t3, t9, t10, t11⟩
  rw [List.take_length] at o
  have hs : h.Sub h' := by obtain ⟨_, a1, _⟩ := id o; exact a1.1
  have x1 : x.one = true := by obtain ⟨_, a1, _⟩ := id o; exact a1.one
  simp -implicitDefEqProofs (maxSteps := 999999) (disch := first | with_reducible rfl | omega | (simp only [nA, nS, nD] <;> omega) | fail) only [go_sem, t3, t9, t10, t11, Int.lt_irrefl]
  exact q _ _ hs x1 (LsOwn.rdI o hl hll)
def longB (S : List (List Int)) : Bool := (S.any fun l => decide (15 < l.length)) || decide (15 < S.length)
theorem long_ev {h : H} {y : V} {S : List (List Int)} (hw : h.wf) (hS : RdI h y S) (Q : V → H → Prop) (q : Q (.bool (longB S)) h) :
  Ev fnG fastA (.fn 8 [] []) [y] h Q := by
 have ly := hS.len
 have hb := hS.bound
 refine Ev_body (fd := c8) rfl rfl rfl ?_
 simp -implicitDefEqProofs (maxSteps := 999999) (disch := first | with_reducible rfl | omega | (simp only [nA, nS, nD] <;> omega) | fail) only [c8, go_sem, ly]
 refine W_count S.length (fun i s => ∃ tm, s = ⟨tm, h, []⟩ ∧ (∀ j (hj : j < S.length), j < i → ¬ 15 < S[j].length) ∧ (Opd.t 0).ev tm = y ∧ (Opd.t 5).ev tm = y ∧ (Opd.t 6).ev tm = .int .i64 (S.length : Int) ∧ (Opd.t 7).ev tm = .int .i64 (i : Int))
  ?_ ?_ (i := 0) (Nat.zero_le _) ⟨_, rfl, fun j hj h0 => by omega, (by simp [ev_c, ev_put] <;> rfl), (by simp [ev_c, ev_put] <;> rfl), (by simp [ev_c, ev_put] <;> rfl), (by simp [ev_c, ev_put] <;> rfl)⟩
 ·rintro i s hi ⟨tm, rfl, hno, t0, t5, t6, t7⟩
  have hi' : (i : Int) < (S.length : Int) := by omega
  obtain ⟨b, oo, cs, v, e1, e2, e3, e4⟩ := hS.row hi
  have lv := e4.lenE
  by_cases c : 15 < S[i].length
  ·have c' : (15 : Int) < (S[i].length : Int) := by omega
   have e : longB S = true := by
    unfold longB
    rw [Bool.or_eq_true, List.any_eq_true]
    exact .inl ⟨_, List.getElem_mem hi, decide_eq_true c⟩
   rw [e] at q
   simp -implicitDefEqProofs (maxSteps := 999999) (disch := first | with_reducible rfl | omega | (simp only [nA, nS, nD] <;> omega) | fail) only [go_sem, t0, t5, t6, t7, hi', e1, e2, e3, lv, c']
   exact q
  ·have c' : ¬ (15 : Int) < (S[i].length : Int) := by omega
   simp -implicitDefEqProofs (maxSteps := 999999) (disch := first | with_reducible rfl | omega | (simp only [nA, nS, nD] <;> omega) | fail) only [go_sem, t0, t5, t6, t7, hi', e1, e2, e3, lv, c', wr_succ]
   exact ⟨_, rfl, fun j hj h0 => by
    by_cases e : j = i
    ·subst e; exact c
    ·exact hno j hj (by omega), (by simp [ev_c, ev_put, t0] <;> rfl), (by simp [ev_c, ev_put, t5] <;> rfl), (by simp [ev_c, ev_put, t6] <;> rfl), (by simp [ev_c, ev_put] <;> rfl)⟩
 ·rintro s ⟨tm, rfl, hno, t0, t5, t6, t7⟩
  have e : longB S = decide ((15 : Int) < (S.length : Int)) := by
   unfold longB
   have : (S.any fun l => decide (15 < l.length)) = false := by
    rw [List.any_eq_false]
    intro l hl
    obtain ⟨j, hj, rfl⟩ := List.getElem_of_mem hl
    simpa using hno j hj hj
   rw [this, Bool.false_or, decide_eq_decide]; omega
  rw [e] at q
  simp -implicitDefEqProofs (maxSteps := 999999) (disch := first | with_reducible rfl | omega | (simp only [nA, nS, nD] <;> omega) | fail) only [go_sem, t0, t5, t6, t7, Int.lt_irrefl, ly]
  exact q
theorem longB_of {S : List (List Int)} (h : longB S = false) : S.length ≤ 15 ∧ ∀ l ∈ S, l.length ≤ 15 := by
 unfold longB at h
 rw [Bool.or_eq_false_iff, List.any_eq_false] at h
 refine ⟨by have := of_decide_eq_false h.2; omega, fun l hl => by have := h.1 l hl; simp at this; omega⟩
def wideB (t : Tb) : Bool := greatT t || (decide (7 < t.pieces.length) && decide (t.pieces.length ≤ 9))
theorem wide_ev {h : H} {v : V} {t : Tb} (hw : h.wf) (ht : TbIs h v t) (Q : V → H → Prop) (q : ∀ h', h.Sub h' → Q (.bool (wideB t)) h') : Ev fnG fastA (.fn 7 [] []) [v] h Q := by
 have ht0 := ht
 obtain ⟨E, L, P, rfl, aE, aL, aP⟩ := ht
 have hlP := aP.lenE
 refine Ev_body (fd := c7) rfl rfl rfl ?_
 have s1 : h.Sub (h.add (.cells .rw [E, L, P])) := (by repeat (first | assumption | exact H.Sub.refl (by assumption) | refine H.Sub.add ?_ _ | refine H.Sub.set ?_ (by first | omega | (simp only [H.next_add, H.next_set, H.next_del] <;> omega)) (by first | omega | (simp only [H.next_add, H.next_set, H.next_del] <;> omega)) (by assumption) _))
 have g1 : (h.add (.cells .rw [E, L, P])).cells h.next = some [E, L, P] := cells_add_new rfl
 simp -implicitDefEqProofs (maxSteps := 999999) (disch := first | with_reducible rfl | omega | (simp only [nA, nS, nD] <;> omega) | fail) only [c7, go_sem]
 generalize h.add (.cells .rw [E, L, P]) = h1 at s1 g1 ⊢
 refine great_ev s1.wf (ht0.mono s1) _ fun h2 s2 => ?_
 have s12 := s1.trans s2
 have q' := q _ s12
 unfold wideB at q'
 cases hg : greatT t
 ·rw [hg, Bool.false_or] at q'
  by_cases c1 : 7 < t.pieces.length
  ·have c1' : decide ((7 : Int) < (t.pieces.length : Int)) = true := decide_eq_true (by omega)
   rw [decide_eq_true c1, Bool.true_and] at q'
   have e : decide (t.pieces.length ≤ 9) = decide ((t.pieces.length : Int) ≤ 9) := by rw [decide_eq_decide]; omega
   rw [e] at q'
   simp -implicitDefEqProofs (maxSteps := 999999) (disch := first | with_reducible rfl | omega | (simp only [nA, nS, nD] <;> omega) | fail) only [go_sem, s2.cells g1, hlP, c1']
   exact q'
  ·have c1' : decide ((7 : Int) < (t.pieces.length : Int)) = false := decide_eq_false (by omega)
   rw [decide_eq_false c1, Bool.false_and] at q'
   simp -implicitDefEqProofs (maxSteps := 999999) (disch := first | with_reducible rfl | omega | (simp only [nA, nS, nD] <;> omega) | fail) only [go_sem, s2.cells g1, hlP, c1']
   exact q'
 ·rw [hg, Bool.true_or] at q'
  simp -implicitDefEqProofs (maxSteps := 999999) (disch := first | with_reducible rfl | omega | (simp only [nA, nS, nD] <;> omega) | fail) only [go_sem]
  exact q'
end Go.Ab.Tryz
set_option linter.unusedSimpArgs false
set_option linter.unusedVariables false
namespace Go.Ab.Tryz
open Go.Ab.Silk (Inc bitsL bitsL_onto)
theorem zero_bits : ∀ {k : Nat} {s : Int}, 0 < k → ((0 : Int) ∈ bitsL k s 0 ↔ s % 2 = 1)
 | 0, _, h => by omega
 | k + 1, s, _ => by
  rw [show bitsL (k + 1) s 0 = if s % 2 = 1 then 0 :: bitsL k (s / 2) (0 + 1) else bitsL k (s / 2) (0 + 1) from rfl]
  have hn : (0 : Int) ∉ bitsL k (s / 2) (0 + 1) := fun h => by have := (Silk.bitsL_inc k (s / 2) (0 + 1)).mem 0 h; omega
  split
  ·rename_i c
   exact ⟨fun _ => c, fun _ => by simp⟩
  ·rename_i c
   exact ⟨fun h => absurd h hn, fun h => absurd h c⟩
section
variable {T : Int → Int → Bool} {n : Nat} {l : List Int}
def pkS (l : List Int) (s : Int) : List Int := pickI l (bitsL l.length s 0)
def okS (T : Int → Int → Bool) (l : List Int) (s : Int) : Bool := okTo T (pkS l s) (pkS l s).length
def rlS (l : List Int) (s : Int) : List Int := l.filter fun x => !decide (x ∈ pkS l s)
theorem pkS_pw (pw : l.Pairwise (· < ·)) (s : Int) : (pkS l s).Pairwise (· < ·) := pick_pw pw (bits_inc0 _ _)
theorem pkS_filter (pw : l.Pairwise (· < ·)) (s : Int) : pkS l s = l.filter fun x => decide (x ∈ pkS l s) := pick_filter pw (bits_inc0 _ _)
theorem rlS_val (pw : l.Pairwise (· < ·)) (s : Int) : val l = val (pkS l s) + val (rlS l s) := by
 have := val_filter (fun x => decide (x ∈ pkS l s)) l
 rw [← pkS_filter pw] at this; exact this
theorem rlS_inc (inc : Inc n 0 l) (s : Int) : Inc n 0 (rlS l s) := Inc.filt inc _
theorem pkS_first (hl : 0 < l.length) {s : Int} (odd : s % 2 = 1) : l[0] ∈ pkS l s := by
 have : (0 : Int) ∈ bitsL l.length s 0 := (zero_bits hl).2 odd
 unfold pkS pickI
 refine List.mem_map.2 ⟨0, this, ?_⟩
 rw [show (0 : Int).toNat = 0 from rfl, getD_at hl]
theorem dp_iff (sy : ∀ x y, T x y = T y x) (inc : Inc n 0 l) (hl : 0 < l.length) (m : Nat) :
  ColL T l m ↔ (n + 1 ≤ m ∨ ∃ j : Nat, j < 2 ^ (l.length - 1) ∧ okS T l (2 * (j : Int) + 1) = true ∧ 1 ≤ m ∧ ColL T (rlS l (2 * (j : Int) + 1)) (m - 1)) := by
 have pw := Inc.pw inc
 have h0 := List.getElem_mem hl
 constructor
 ·intro h
  right
  obtain ⟨c, c1, c2, c3, c4⟩ := (colL_step h0 m).1 h
  obtain ⟨one, i1, i2, i3⟩ := filter_pick pw c
  obtain ⟨s, s0, s1, e⟩ := bitsL_onto l.length 0 one (by rw [Int.zero_add]; exact i1)
  have hz : (0 : Int) ∈ one := (i3 0 hl).2 c1
  rw [← e] at hz
  have odd := (zero_bits hl).1 hz
  have hp : (2 : Int) ^ l.length = 2 * ((2 ^ (l.length - 1) : Nat) : Int) := by
   obtain ⟨k, ek⟩ : ∃ k, l.length = k + 1 := ⟨l.length - 1, by omega⟩
   rw [ek, Int.pow_succ]; simp; omega
  have es : s = 2 * (((s / 2).toNat : Nat) : Int) + 1 := by omega
  have epk : pkS l s = l.filter c := by unfold pkS; rw [e, i2]
  have erl : rlS l s = l.filter fun x => !c x := by
   unfold rlS; rw [epk]
   refine List.filter_congr fun x hx => ?_
   congr 1
   rw [Bool.eq_iff_iff, decide_eq_true_eq, List.mem_filter]
   exact ⟨fun h => h.2, fun h => ⟨hx, h⟩⟩
  refine ⟨(s / 2).toNat, by omega, ?_, c3, ?_⟩
  ·rw [← es]; unfold okS
   rw [okTo_clq sy (pkS_pw pw s), epk]; exact c2
  ·rw [← es, erl]; exact c4
 ·rintro (h | ⟨j, hj, h1, h2, h3⟩)
  ·exact colL_big inc (by omega)
  ·refine (colL_step h0 m).2 ⟨fun x => decide (x ∈ pkS l (2 * (j : Int) + 1)), ?_, ?_, h2, h3⟩
   ·exact decide_eq_true (pkS_first hl (by omega))
   ·rw [← pkS_filter pw]
    unfold okS at h1
    exact (okTo_clq sy (pkS_pw pw _)).1 h1
def FewOk (T : Int → Int → Bool) (n : Nat) (F : Int → Int) (s : Int) : Prop := ∀ u, 0 ≤ u → u < s → ∃ k : Nat, F u = (k : Int) ∧ ∀ m, k ≤ m ↔ ColL T (bitsL n u 0) m
def VOk (T : Int → Int → Bool) (n : Nat) (l : List Int) (v : Int) (j : Nat) : Prop := ∃ k : Nat, v = (k : Int) ∧ k ≤ n + 1 ∧ ∀ m, k ≤ m ↔ (n + 1 ≤ m ∨ ∃ j' : Nat, j' < j ∧ okS T l (2 * (j' : Int) + 1) = true ∧ 1 ≤ m ∧ ColL T (rlS l (2 * (j' : Int) + 1)) (m - 1))
theorem VOk.zero : VOk T n l ((n + 1 : Nat) : Int) 0 := ⟨n + 1, rfl, Nat.le_refl _, fun m => ⟨.inl, fun h => h.elim id fun ⟨_, h, _⟩ => by omega⟩⟩
theorem VOk.skip {v : Int} {j : Nat} (a : VOk T n l v j) (h : okS T l (2 * (j : Int) + 1) = false) : VOk T n l v (j + 1) := by
 obtain ⟨k, e, hk, a⟩ := a
 refine ⟨k, e, hk, fun m => ?_⟩
 rw [a]
 constructor
 ·rintro (h1 | ⟨j', h1, h2⟩)
  ·exact .inl h1
  ·exact .inr ⟨j', by omega, h2⟩
 ·rintro (h1 | ⟨j', h1, h2⟩)
  ·exact .inl h1
  ·by_cases e : j' = j
   ·subst e; rw [h] at h2; cases h2.1
   ·exact .inr ⟨j', by omega, h2⟩
theorem VOk.take {v : Int} {j : Nat} (a : VOk T n l v j) (h : okS T l (2 * (j : Int) + 1) = true) {r : Nat} (hr : ∀ m, r ≤ m ↔ ColL T (rlS l (2 * (j : Int) + 1)) m) : VOk T n l (min v ((r : Int) + 1)) (j + 1) := by
 obtain ⟨k, rfl, hk, a⟩ := a
 refine ⟨min k (r + 1), by omega, by omega, fun m => ?_⟩
 have e : min k (r + 1) ≤ m ↔ k ≤ m ∨ (1 ≤ m ∧ r ≤ m - 1) := by omega
 rw [e, a, hr]
 constructor
 ·rintro ((h1 | ⟨j', h1, h2⟩) | h1)
  ·exact .inl h1
  ·exact .inr ⟨j', by omega, h2⟩
  ·exact .inr ⟨j, by omega, h, h1⟩
 ·rintro (h1 | ⟨j', h1, h2⟩)
  ·exact .inl (.inl h1)
  ·by_cases e : j' = j
   ·subst e; exact .inr h2.2
   ·exact .inl (.inr ⟨j', by omega, h2⟩)
theorem VOk.all {v : Int} (sy : ∀ x y, T x y = T y x) (inc : Inc n 0 l) (hl : 0 < l.length) (a : VOk T n l v (2 ^ (l.length - 1))) : ∃ k : Nat, v = (k : Int) ∧ ∀ m, k ≤ m ↔ ColL T l m := by
 obtain ⟨k, e, _, a⟩ := a
 exact ⟨k, e, fun m => by rw [a, dp_iff sy inc hl]⟩
theorem FewOk.rest {F : Int → Int} {s : Int} (a : FewOk T n F s) (h1 : s < 2 ^ n) (h0 : 0 < s) {j : Nat} (hl : 0 < (bitsL n s 0).length) (el : bitsL n s 0 = l) :
  ∃ r : Nat, s - val (pkS l (2 * (j : Int) + 1)) = val (rlS l (2 * (j : Int) + 1)) ∧ (0 ≤ val (rlS l (2 * (j : Int) + 1)) ∧ val (rlS l (2 * (j : Int) + 1)) < s) ∧ F (val (rlS l (2 * (j : Int) + 1))) = (r : Int) ∧ ∀ m, r ≤ m ↔ ColL T (rlS l (2 * (j : Int) + 1)) m := by
 have inc : Inc n 0 l := by rw [← el]; exact bits_inc0 n s
 have pw := Inc.pw inc
 have ev : val l = s := by rw [← el]; exact bits_val0 (by omega) h1
 have e1 := rlS_val pw (2 * (j : Int) + 1)
 have nn := val_nn (rlS l (2 * (j : Int) + 1))
 rw [el] at hl
 have hf := pkS_first hl (s := 2 * (j : Int) + 1) (by omega)
 have hpos : 0 < val (pkS l (2 * (j : Int) + 1)) := by
  cases hc : pkS l (2 * (j : Int) + 1) with
  | nil => rw [hc] at hf; cases hf
  | cons a b =>
   have := val_nn b
   have : (0 : Int) < 2 ^ a.toNat := Int.pow_pos (by decide)
   simp only [val]; omega
 obtain ⟨r, hr1, hr2⟩ := a (val (rlS l (2 * (j : Int) + 1))) nn (by omega)
 rw [(val_bits (rlS_inc inc _)).2] at hr2
 exact ⟨r, by omega, ⟨nn, by omega⟩, hr1, hr2⟩
theorem FewOk.last {F : Int → Int} (sy : ∀ x y, T x y = T y x) (a : FewOk T n F (2 ^ n)) : F (2 ^ n - 1) = (chi T n : Int) := by
 have hp : (0 : Int) < 2 ^ n := Int.pow_pos (by decide)
 obtain ⟨k, h1, h2⟩ := a (2 ^ n - 1) (by omega) (by omega)
 rw [bits_full] at h2
 have e : ∀ m, k ≤ m ↔ chi T n ≤ m := fun m => by rw [h2, colL_chi sy]
 have a1 := (e k).1 (Nat.le_refl _)
 have a2 := (e (chi T n)).2 (Nat.le_refl _)
 rw [h1]; omega
end
end Go.Ab.Tryz
set_option linter.unusedSimpArgs false
set_option linter.unusedVariables false
namespace Go.Ab.Tryz
open Go.Ab.Silk (Inc bitsL lexlt)
theorem fset_ne {f : Int → Int} {i x k : Int} (h : k ≠ i) : fset f i x k = f k := if_neg h
theorem fset_eq (f : Int → Int) (i x : Int) : fset f i x i = x := if_pos rfl
theorem FewOk.set {T : Int → Int → Bool} {n : Nat} {F : Int → Int} {s : Int} (a : FewOk T n F s) (v : Int) : FewOk T n (fset F s v) s := fun u u0 u1 => by
 rw [fset_ne (by omega)]; exact a u u0 u1
theorem FewOk.next {T : Int → Int → Bool} {n : Nat} {F : Int → Int} {s : Int} (a : FewOk T n F s) (h : ∃ k : Nat, F s = (k : Int) ∧ ∀ m, k ≤ m ↔ ColL T (bitsL n s 0) m) : FewOk T n F (s + 1) := fun u u0 u1 => by
 by_cases e : u = s
 ·subst e; exact h
 ·exact a u u0 (by omega)
structure DpAt (T : Int → Int → Bool) (n N : Nat) (h0 h : H) (b : Nat) (F : Int → Int) (s : Int) : Prop where
 sub : h0.Sub h
 get : h.get b = some (.cells .rw (tab F N))
 few : FewOk T n F s
 pos : 1 ≤ s
theorem DpAt.mono {T : Int → Int → Bool} {n N : Nat} {h0 h h' : H} {b : Nat} {F : Int → Int} {s : Int} (a : DpAt T n N h0 h b F s) (k : h.Sub h') : DpAt T n N h0 h' b F s := ⟨a.sub.trans k, k.get a.get, a.few, a.pos⟩
theorem DpAt.put {T : Int → Int → Bool} {n N : Nat} {h0 h : H} {b : Nat} {F : Int → Int} {s : Int} (a : DpAt T n N h0 h b F s) (hb : h0.next ≤ b) (hw0 : h0.wf) (v : Int) : DpAt T n N h0 (h.set b (.cells .rw (tab (fset F s v) N))) b (fset F s v) s :=
 ⟨a.sub.set hb (a.sub.wf _ _ a.get) hw0 _, get_set_same rfl, a.few.set v, a.pos⟩
set_option maxRecDepth 4000 in
set_option maxHeartbeats 8000000 in
theorem refSort_ev {h : H} {v : V} {t : Tb} (hw : h.wf) (ht : TbIs h v t) (g : Good t) (Q : V → H → Prop)
  (q : ∀ h', h.Sub h' → Q (.int .i64 (chi (mT t) t.pieces.length : Int)) h') : Ev fnG fastA (.fn 16 [] []) [v] h Q := by
 have ht0 := ht
 obtain ⟨E, L, P, rfl, aE, aL, aP⟩ := ht
 have hlP := aP.lenE
 have gp := g.pieces
 have sy := mT_comm g
 have s1 : h.Sub (h.add (.cells .rw [E, L, P])) := (by repeat (first | assumption | exact H.Sub.refl (by assumption) | refine H.Sub.add ?_ _ | refine H.Sub.set ?_ (by first | omega | (simp only [H.next_add, H.next_set, H.next_del] <;> omega)) (by first | omega | (simp only [H.next_add, H.next_set, H.next_del] <;> omega)) (by assumption) _))
 have g1 : (h.add (.cells .rw [E, L, P])).cells h.next = some [E, L, P] := cells_add_new rfl
 refine Ev_body (fd := c16) rfl rfl rfl ?_
 simp -implicitDefEqProofs (maxSteps := 999999) (disch := first | with_reducible rfl | omega | (simp only [nA, nS, nD] <;> omega) | fail) only [c16, go_sem]
 generalize h.add (.cells .rw [E, L, P]) = h1 at s1 g1 ⊢
 refine Matches_ev s1.wf (ht0.mono s1) g _ fun x hM oM => ?_
 have s1M : h1.Sub hM := by obtain ⟨_, a1, _⟩ := oM; exact a1.1
 have gM := s1M.cells g1
 have h2p : (2 : Int) ^ t.pieces.length = ((2 ^ t.pieces.length : Nat) : Int) := by simp
 have hset := fun (hh : H) (R : V → H → Prop) => sets_ev (h := hh) (n := t.pieces.length) (by omega) R
 have hp10 := pow_le (i := t.pieces.length) (by omega)
 have hp1 : 1 ≤ 2 ^ t.pieces.length := Nat.one_le_two_pow
 obtain ⟨N, eN⟩ : ∃ N, 2 ^ t.pieces.length = N := ⟨_, rfl⟩
 rw [eN] at h2p hp10 hp1
 have sF := (H.Sub.refl s1M.wf).add (.cells .rw (tab (fun _ => 0) N))
 have gF : (hM.add (.cells .rw (tab (fun _ => 0) N))).get hM.next = some (.cells .rw (tab (fun _ => 0) N)) := get_add_new rfl
 simp -implicitDefEqProofs (maxSteps := 999999) (disch := first | with_reducible rfl | omega | (simp only [nA, nS, nD] <;> omega) | fail) only [go_sem, gM, hlP, hset, h2p, a_msl_nm, tab_zero]
 have D0 : DpAt (mT t) t.pieces.length N hM (hM.add (.cells .rw (tab (fun _ => 0) N))) hM.next (fun _ => 0) ((1 : Nat) : Int) := ⟨sF, gF, fun u u0 u1 => ⟨0, rfl, fun m => ⟨fun _ => by
   have : u = 0 := by omega
   rw [this, bits_zero]; exact colL_nil _ _, fun _ => Nat.zero_le _⟩⟩, by omega⟩
 generalize hM.add (.cells .rw (tab (fun _ => 0) N)) = hF at D0 ⊢
 clear sF gF
 obtain ⟨bF, eb⟩ : ∃ bF, hM.next = bF := ⟨_, rfl⟩
 rw [eb] at D0 ⊢
 refine W_count N (fun i s => ∃ tm hh F, s = ⟨tm, hh, []⟩ ∧ DpAt (mT t) t.pieces.length N hM hh bF F (i : Int) ∧ (Opd.t 1).ev tm = .ptr h.next 0 ∧ (Opd.t 3).ev tm = x ∧ (Opd.t 4).ev tm = .sl bF 0 N (.fix N) ∧ (Opd.t 5).ev tm = .int .i64 (i : Int))
  ?_ ?_ (i := 1) hp1 ⟨_, _, _, rfl, D0, (by simp [ev_c, ev_put] <;> rfl), (by simp [ev_c, ev_put] <;> rfl), (by simp [ev_c, ev_put] <;> rfl), (by simp [ev_c, ev_put] <;> rfl)⟩
 ·rintro i s hi ⟨tm, hh, F, rfl, D, t1, t3, t4, t5⟩
  have hi' : (i : Int) < (N : Int) := by omega
  have hi2 : (i : Int) < 2 ^ t.pieces.length := by rw [h2p]; exact hi'
  have hi1 := D.pos
  have es : ((i + 1 : Nat) : Int) = (i : Int) + 1 := by omega
  have gB := D.get
  have D1 := D.put (by omega) s1M.wf ((t.pieces.length + 1 : Nat) : Int)
  have np1 : ((t.pieces.length : Nat) : Int) + 1 = ((t.pieces.length + 1 : Nat) : Int) := by omega
  have ltb := D.sub.wf _ _ gB
  have ltb1 : bF < (hh.set bF (.cells .rw (tab (fset F (i : Int) ((t.pieces.length + 1 : Nat) : Int)) N))).next := by rw [H.next_set]; exact ltb
  simp -implicitDefEqProofs (maxSteps := 999999) (disch := first | with_reducible rfl | omega | (simp only [nA, nS, nD] <;> omega) | fail) only [go_sem, t1, t3, t4, t5, hi', D.sub.cells gM, hlP, wr_succ, q_iad_sl (nat_cst i) hi, Nat.mul_one, gB, tab_st2 hi]
  generalize hh.set bF (.cells .rw (tab (fset F (i : Int) ((t.pieces.length + 1 : Nat) : Int)) N)) = h2 at D1 ltb1 ⊢
  refine members_ev (n := t.pieces.length) D1.sub.wf (by omega) (by omega) hi2 _ fun z h3 oz => ?_
  have incl := bits_inc0 t.pieces.length (i : Int)
  have hlz : (bitsL t.pieces.length (i : Int) 0).length ≤ 9 := by have := incl.len (by omega); omega
  have hlp := bits_pos hi1 hi2
  have pw := Inc.pw incl
  have hmem := fun x hx => incl.mem x hx
  have hrest := fun (F' : Int → Int) (a : FewOk (mT t) t.pieces.length F' (i : Int)) (j : Nat) => a.rest (j := j) hi2 (by omega) hlp rfl
  have hall := fun v => VOk.all (T := mT t) (v := v) sy incl hlp
  have hvl : val (bitsL t.pieces.length (i : Int) 0) = (i : Int) := bits_val0 (by omega) hi2
  obtain ⟨l, el⟩ : ∃ l, bitsL t.pieces.length (i : Int) 0 = l := ⟨_, rfl⟩
  rw [el] at oz hlz hlp pw hmem hall hvl incl
  have hrest' : ∀ (F' : Int → Int) (a : FewOk (mT t) t.pieces.length F' (i : Int)) (j : Nat), ∃ r : Nat, (i : Int) - val (pkS l (2 * (j : Int) + 1)) = val (rlS l (2 * (j : Int) + 1)) ∧ (0 ≤ val (rlS l (2 * (j : Int) + 1)) ∧ val (rlS l (2 * (j : Int) + 1)) < (i : Int)) ∧ F' (val (rlS l (2 * (j : Int) + 1))) = (r : Int) ∧ ∀ m, r ≤ m ↔ ColL (mT t) (rlS l (2 * (j : Int) + 1)) m := fun F' a j => by
   have := hrest F' a j; rw [el] at this; exact this
  clear hrest
  have az := oz.sl (by simp only [List.length_map]; omega)
  have lz := az.lenE
  have bz : ∀ b, blkOf z b → b ≠ bF := fun b hb e => by have := (oz.blk hb).1; omega
  have D3 := D1.mono oz.1
  have k2p : (2 : Int) ^ l.length = 2 * ((2 ^ (l.length - 1) : Nat) : Int) := by
   obtain ⟨k, ek⟩ : ∃ k, l.length = k + 1 := ⟨l.length - 1, by omega⟩
   rw [ek, Int.pow_succ]; simp; omega
  have kp10 := pow_le (i := l.length - 1) (by omega)
  have hset2 := fun (hh : H) (R : V → H → Prop) => sets_ev (h := hh) (n := l.length) (by omega) R
  have V0 : VOk (mT t) t.pieces.length l (fset F (i : Int) ((t.pieces.length + 1 : Nat) : Int) (i : Int)) 0 := by rw [fset_eq]; exact VOk.zero
  simp -implicitDefEqProofs (maxSteps := 999999) (disch := first | with_reducible rfl | omega | (simp only [nA, nS, nD] <;> omega) | fail) only [go_sem, t1, t3, t4, t5]
  refine W.mono (Q := fun x1 s => x1 = .ext 2 ∧ ∃ tm h4 F', s = ⟨tm, h4, []⟩ ∧ DpAt (mT t) t.pieces.length N hM h4 bF F' (i : Int) ∧ VOk (mT t) t.pieces.length l (F' (i : Int)) (2 ^ (l.length - 1)) ∧ (Opd.t 1).ev tm = .ptr h.next 0 ∧ (Opd.t 3).ev tm = x ∧ (Opd.t 4).ev tm = .sl bF 0 N (.fix N) ∧ (Opd.t 5).ev tm = .int .i64 (i : Int))
   (W_count (2 ^ (l.length - 1)) (fun j s => ∃ tm h4 F', s = ⟨tm, h4, []⟩ ∧ DpAt (mT t) t.pieces.length N hM h4 bF F' (i : Int) ∧ VOk (mT t) t.pieces.length l (F' (i : Int)) j ∧ SlAt h4 z 1 (l.map encI) ∧ (Opd.t 1).ev tm = .ptr h.next 0 ∧ (Opd.t 3).ev tm = x ∧ (Opd.t 4).ev tm = .sl bF 0 N (.fix N) ∧ (Opd.t 5).ev tm = .int .i64 (i : Int) ∧ (Opd.t 6).ev tm = z ∧ (Opd.t 7).ev tm = .int .i64 (2 * (j : Int) + 1))
   ?_ ?_ (i := 0) (Nat.zero_le _) ⟨_, _, _, rfl, D3, V0, az, (by simp [ev_c, ev_put, t1] <;> rfl), (by simp [ev_c, ev_put, t3] <;> rfl), (by simp [ev_c, ev_put, t4] <;> rfl), (by simp [ev_c, ev_put, t5] <;> rfl), (by simp [ev_c, ev_put] <;> rfl), (by simp [ev_c, ev_put] <;> rfl)⟩) fun x1 s hx1 => ?_
  ·clear t1 t3 t4 t5 az D D1 D3 V0 gB
   rintro j s hj ⟨tm, h4, F', rfl, D, vo, az, t1, t3, t4, t5, t6, t7⟩
   have hj' : 2 * (j : Int) + 1 < 2 * ((2 ^ (l.length - 1) : Nat) : Int) := by omega
   simp -implicitDefEqProofs (maxSteps := 999999) (disch := first | with_reducible rfl | omega | (simp only [nA, nS, nD] <;> omega) | fail) only [go_sem, t1, t3, t4, t5, t6, t7, lz, hset2, k2p, hj']
   refine members_ev (n := l.length) D.sub.wf (by omega) (by omega) (by rw [k2p]; exact hj') _ fun z2 h5 oz2 => ?_
   have s45 := oz2.1
   obtain ⟨one, eone⟩ : ∃ one, bitsL l.length (2 * (j : Int) + 1) 0 = one := ⟨_, rfl⟩
   have inc1 := bits_inc0 l.length (2 * (j : Int) + 1)
   have epk : pkS l (2 * (j : Int) + 1) = pickI l one := by unfold pkS; rw [eone]
   rw [eone] at oz2 inc1
   have l1 := inc1.len (by omega)
   have az2 := oz2.sl (by simp only [List.length_map]; omega)
   have lz2 := az2.lenE
   have az5 := az.mono s45
   have D5 := D.mono s45
   have oM5 := oM.mono D5.sub
   obtain ⟨pk, hpk⟩ : ∃ pk, pickI l one = pk := ⟨_, rfl⟩
   have lpk : pk.length = one.length := by rw [← hpk]; simp [pickI]
   have pkm : ∀ y ∈ pk, y ∈ l := fun y hy => by rw [← hpk] at hy; exact pick_mem inc1 hy
   have pka : ∀ a (ha : a < one.length), ∃ ia : Nat, ∃ hia : ia < l.length, one[a] = (ia : Int) ∧ pk.getD a 0 = l[ia] := fun a ha => by
    have h1 := inc1.mem _ (List.getElem_mem ha)
    refine ⟨one[a].toNat, by omega, by omega, ?_⟩
    rw [getD_at (by omega)]
    subst hpk
    unfold pickI
    rw [List.getElem_map, getD_at (by omega)]
   have hvp : ∀ a, 0 ≤ val (pk.take a) ∧ val (pk.take a) ≤ 1024 := fun a => by
    refine ⟨val_nn _, ?_⟩
    have h1 : val pk = val (pk.take a) + val (pk.drop a) := by rw [← val_app, List.take_append_drop]
    have h2 := val_nn (pk.drop a)
    have h3 := rlS_val pw (2 * (j : Int) + 1)
    have h4 := val_nn (rlS l (2 * (j : Int) + 1))
    rw [epk, hpk] at h3
    omega
   rw [hpk] at epk
   simp -implicitDefEqProofs (maxSteps := 999999) (disch := first | with_reducible rfl | omega | (simp only [nA, nS, nD] <;> omega) | fail) only [go_sem, t1, t3, t4, t5, t6, t7]
   refine W.mono (Q := fun x1 s => x1 = .ext 4 ∧ ∃ tm, s = ⟨tm, h5, []⟩ ∧ (Opd.t 1).ev tm = .ptr h.next 0 ∧ (Opd.t 3).ev tm = x ∧ (Opd.t 4).ev tm = .sl bF 0 N (.fix N) ∧ (Opd.t 5).ev tm = .int .i64 (i : Int) ∧ (Opd.t 6).ev tm = z ∧ (Opd.t 7).ev tm = .int .i64 (2 * (j : Int) + 1) ∧ (Opd.t 9).ev tm = .bool (okTo (mT t) pk pk.length) ∧ (Opd.t 11).ev tm = .int .i64 (val pk))
    (W_count one.length (fun a s => ∃ tm, s = ⟨tm, h5, []⟩ ∧ (Opd.t 1).ev tm = .ptr h.next 0 ∧ (Opd.t 3).ev tm = x ∧ (Opd.t 4).ev tm = .sl bF 0 N (.fix N) ∧ (Opd.t 5).ev tm = .int .i64 (i : Int) ∧ (Opd.t 6).ev tm = z ∧ (Opd.t 7).ev tm = .int .i64 (2 * (j : Int) + 1) ∧ (Opd.t 8).ev tm = z2 ∧ (Opd.t 9).ev tm = .bool (okTo (mT t) pk a) ∧ (Opd.t 11).ev tm = .int .i64 (val (pk.take a)) ∧ (Opd.t 12).ev tm = .int .i64 (a : Int))
    ?_ ?_ (i := 0) (Nat.zero_le _) ⟨_, rfl, (by simp [ev_c, ev_put, t1] <;> rfl), (by simp [ev_c, ev_put, t3] <;> rfl), (by simp [ev_c, ev_put, t4] <;> rfl), (by simp [ev_c, ev_put, t5] <;> rfl), (by simp [ev_c, ev_put, t6] <;> rfl), (by simp [ev_c, ev_put, t7] <;> rfl), (by simp [ev_c, ev_put] <;> rfl), (by simp [ev_c, ev_put] <;> rfl), (by simp [ev_c, ev_put] <;> rfl), (by simp [ev_c, ev_put] <;> rfl)⟩) fun x1 s hx1 => ?_
   ·clear t1 t3 t4 t5 t6 t7
    rintro a s ha ⟨tm, rfl, t1, t3, t4, t5, t6, t7, t8, t9, t11, t12⟩
    have ha' : (a : Int) < (one.length : Int) := by omega
    obtain ⟨ia, hia, ea1, ea2⟩ := pka a ha
    obtain ⟨bA, oA, csA, f1, f2, f3⟩ := SlAt.elemF az2 ha
    rw [ea1] at f3
    obtain ⟨bA2, oA2, csA2, f4, f5, f6⟩ := SlAt.elemF az5 hia
    have ma := hmem _ (List.getElem_mem hia)
    have ez : okTo (mT t) pk a = (okTo (mT t) pk a && okRow (mT t) pk a 0) := by simp [okRow]
    have hseta := fun (hh : H) (R : V → H → Prop) => sets_ev (h := hh) (n := l[ia].toNat) (by omega) R
    have etn : ((l[ia].toNat : Nat) : Int) = l[ia] := by omega
    rw [etn] at hseta
    have hva := hvp a
    have hva1 := hvp (a + 1)
    have ev1 : val (pk.take (a + 1)) = val (pk.take a) + 2 ^ l[ia].toNat := by
     rw [List.take_succ_eq_append_getElem (by omega), val_app]
     have : pk[a] = l[ia] := by rw [← ea2, getD_at (by omega)]
     rw [this]; simp [val]
    have wv : wr .i64 (val (pk.take a) + 2 ^ l[ia].toNat) = val (pk.take (a + 1)) := by rw [← ev1, wr_in (by omega) (by omega)]
    simp -implicitDefEqProofs (maxSteps := 999999) (disch := first | with_reducible rfl | omega | (simp only [nA, nS, nD] <;> omega) | fail) only [go_sem, t1, t3, t4, t5, t6, t7, t8, t9, t11, t12, lz2, ha']
    refine W.mono (Q := fun x1 s => x1 = .ext 6 ∧ ∃ tm, s = ⟨tm, h5, []⟩ ∧ (Opd.t 1).ev tm = .ptr h.next 0 ∧ (Opd.t 3).ev tm = x ∧ (Opd.t 4).ev tm = .sl bF 0 N (.fix N) ∧ (Opd.t 5).ev tm = .int .i64 (i : Int) ∧ (Opd.t 6).ev tm = z ∧ (Opd.t 7).ev tm = .int .i64 (2 * (j : Int) + 1) ∧ (Opd.t 8).ev tm = z2 ∧ (Opd.t 9).ev tm = .bool (okTo (mT t) pk (a + 1)) ∧ (Opd.t 11).ev tm = .int .i64 (val (pk.take a)) ∧ (Opd.t 12).ev tm = .int .i64 (a : Int))
     (W_count a (fun k s => ∃ tm, s = ⟨tm, h5, []⟩ ∧ (Opd.t 1).ev tm = .ptr h.next 0 ∧ (Opd.t 3).ev tm = x ∧ (Opd.t 4).ev tm = .sl bF 0 N (.fix N) ∧ (Opd.t 5).ev tm = .int .i64 (i : Int) ∧ (Opd.t 6).ev tm = z ∧ (Opd.t 7).ev tm = .int .i64 (2 * (j : Int) + 1) ∧ (Opd.t 8).ev tm = z2 ∧ (Opd.t 9).ev tm = .bool (okTo (mT t) pk a && okRow (mT t) pk a k) ∧ (Opd.t 11).ev tm = .int .i64 (val (pk.take a)) ∧ (Opd.t 12).ev tm = .int .i64 (a : Int) ∧ (Opd.t 13).ev tm = .int .i64 (k : Int))
     ?_ ?_ (i := 0) (Nat.zero_le _) ⟨_, rfl, (by simp [ev_c, ev_put, t1] <;> rfl), (by simp [ev_c, ev_put, t3] <;> rfl), (by simp [ev_c, ev_put, t4] <;> rfl), (by simp [ev_c, ev_put, t5] <;> rfl), (by simp [ev_c, ev_put, t6] <;> rfl), (by simp [ev_c, ev_put, t7] <;> rfl), (by simp [ev_c, ev_put, t8] <;> rfl), by rw [← ez]; exact (by simp [ev_c, ev_put, t9] <;> rfl), (by simp [ev_c, ev_put, t11] <;> rfl), (by simp [ev_c, ev_put, t12] <;> rfl), (by simp [ev_c, ev_put] <;> rfl)⟩) fun x1 s hx1 => ?_
    ·clear t1 t3 t4 t5 t6 t7 t8 t9 t11 t12
     rintro k s hk ⟨tm, rfl, t1, t3, t4, t5, t6, t7, t8, t9, t11, t12, t13⟩
     have hk' : (k : Int) < (a : Int) := by omega
     have hst := okRow_step (mT t) pk a k
     cases hok1 : (okTo (mT t) pk a && okRow (mT t) pk a k)
     ·rw [hok1] at t9
      have e2 : (okTo (mT t) pk a && okRow (mT t) pk a (k + 1)) = false := by rw [hst, ← Bool.and_assoc, hok1]; rfl
      simp -implicitDefEqProofs (maxSteps := 999999) (disch := first | with_reducible rfl | omega | (simp only [nA, nS, nD] <;> omega) | fail) only [go_sem, t1, t3, t4, t5, t6, t7, t8, t9, t11, t12, t13, hk', wr_succ]
      exact ⟨_, rfl, (by simp [ev_c, ev_put, t1] <;> rfl), (by simp [ev_c, ev_put, t3] <;> rfl), (by simp [ev_c, ev_put, t4] <;> rfl), (by simp [ev_c, ev_put, t5] <;> rfl), (by simp [ev_c, ev_put, t6] <;> rfl), (by simp [ev_c, ev_put, t7] <;> rfl), (by simp [ev_c, ev_put, t8] <;> rfl), by rw [e2]; exact (by simp [ev_c, ev_put] <;> rfl), (by simp [ev_c, ev_put, t11] <;> rfl), (by simp [ev_c, ev_put, t12] <;> rfl), (by simp [ev_c, ev_put] <;> rfl)⟩
     ·rw [hok1] at t9
      obtain ⟨ik, hik, ek1, ek2⟩ := pka k (by omega)
      obtain ⟨bK, oK, csK, f7, f8, f9⟩ := SlAt.elemF az2 (show k < one.length by omega)
      rw [ek1] at f9
      obtain ⟨bK2, oK2, csK2, f10, f11, f12⟩ := SlAt.elemF az5 hik
      have mk := hmem _ (List.getElem_mem hik)
      obtain ⟨b, o, cs, row, b2, o2, cs2, m1, m2, m3, m4, m5, m6⟩ := mats_int g gp oM5 (p := l[ia]) (q := l[ik]) ma mk
      have e2 : (okTo (mT t) pk a && okRow (mT t) pk a (k + 1)) = mT t l[ia] l[ik] := by rw [hst, ← Bool.and_assoc, hok1, Bool.true_and, ea2, ek2]
      simp -implicitDefEqProofs (maxSteps := 999999) (disch := first | with_reducible rfl | omega | (simp only [nA, nS, nD] <;> omega) | fail) only [go_sem, t1, t3, t4, t5, t6, t7, t8, t9, t11, t12, t13, hk', f1, f2, f3, f4, f5, f6, f7, f8, f9, f10, f11, f12, m1, m2, m3, m4, m5, m6, wr_succ]
      exact ⟨_, rfl, (by simp [ev_c, ev_put, t1] <;> rfl), (by simp [ev_c, ev_put, t3] <;> rfl), (by simp [ev_c, ev_put, t4] <;> rfl), (by simp [ev_c, ev_put, t5] <;> rfl), (by simp [ev_c, ev_put, t6] <;> rfl), (by simp [ev_c, ev_put, t7] <;> rfl), (by simp [ev_c, ev_put, t8] <;> rfl), by rw [e2]; exact (by simp [ev_c, ev_put] <;> rfl), (by simp [ev_c, ev_put, t11] <;> rfl), (by simp [ev_c, ev_put, t12] <;> rfl), (by simp [ev_c, ev_put] <;> rfl)⟩
    ·clear t1 t3 t4 t5 t6 t7 t8 t9 t11 t12
     rintro s ⟨tm, rfl, t1, t3, t4, t5, t6, t7, t8, t9, t11, t12, t13⟩
     simp -implicitDefEqProofs (maxSteps := 999999) (disch := first | with_reducible rfl | omega | (simp only [nA, nS, nD] <;> omega) | fail) only [go_sem, t1, t3, t4, t5, t6, t7, t8, t9, t11, t12, t13, Int.lt_irrefl]
     exact ⟨_, rfl, (by simp [ev_c, ev_put, t1] <;> rfl), (by simp [ev_c, ev_put, t3] <;> rfl), (by simp [ev_c, ev_put, t4] <;> rfl), (by simp [ev_c, ev_put, t5] <;> rfl), (by simp [ev_c, ev_put, t6] <;> rfl), (by simp [ev_c, ev_put, t7] <;> rfl), (by simp [ev_c, ev_put, t8] <;> rfl), by rw [okTo_step]; exact (by simp [ev_c, ev_put, t9] <;> rfl), (by simp [ev_c, ev_put, t11] <;> rfl), (by simp [ev_c, ev_put, t12] <;> rfl)⟩
    clear t1 t3 t4 t5 t6 t7 t8 t9 t11 t12
    obtain ⟨rfl, tm, rfl, t1, t3, t4, t5, t6, t7, t8, t9, t11, t12⟩ := hx1
    simp -implicitDefEqProofs (maxSteps := 999999) (disch := first | with_reducible rfl | omega | (simp only [nA, nS, nD] <;> omega) | fail) only [go_sem, t1, t3, t4, t5, t6, t7, t8, t9, t11, t12, f1, f2, f3, f4, f5, f6, hseta, wv, wr_succ]
    exact ⟨_, rfl, (by simp [ev_c, ev_put, t1] <;> rfl), (by simp [ev_c, ev_put, t3] <;> rfl), (by simp [ev_c, ev_put, t4] <;> rfl), (by simp [ev_c, ev_put, t5] <;> rfl), (by simp [ev_c, ev_put, t6] <;> rfl), (by simp [ev_c, ev_put, t7] <;> rfl), (by simp [ev_c, ev_put, t8] <;> rfl), (by simp [ev_c, ev_put, t9] <;> rfl), (by simp [ev_c, ev_put] <;> rfl), (by simp [ev_c, ev_put] <;> rfl)⟩
   ·clear t1 t3 t4 t5 t6 t7
    rintro s ⟨tm, rfl, t1, t3, t4, t5, t6, t7, t8, t9, t11, t12⟩
    rw [← lpk, List.take_length] at t11
    simp -implicitDefEqProofs (maxSteps := 999999) (disch := first | with_reducible rfl | omega | (simp only [nA, nS, nD] <;> omega) | fail) only [go_sem, t1, t3, t4, t5, t6, t7, t8, t9, t11, t12, lz2, Int.lt_irrefl]
    exact ⟨_, rfl, (by simp [ev_c, ev_put, t1] <;> rfl), (by simp [ev_c, ev_put, t3] <;> rfl), (by simp [ev_c, ev_put, t4] <;> rfl), (by simp [ev_c, ev_put, t5] <;> rfl), (by simp [ev_c, ev_put, t6] <;> rfl), (by simp [ev_c, ev_put, t7] <;> rfl), by rw [lpk]; exact (by simp [ev_c, ev_put, t9] <;> rfl), (by simp [ev_c, ev_put, t11] <;> rfl)⟩
   clear t1 t3 t4 t5 t6 t7
   obtain ⟨rfl, tm, rfl, t1, t3, t4, t5, t6, t7, t9, t11⟩ := hx1
   obtain ⟨r, hr1, hr2, hr3, hr4⟩ := hrest' F' D.few j
   rw [epk] at hr1
   have eok : okS (mT t) l (2 * (j : Int) + 1) = okTo (mT t) pk pk.length := by unfold okS; rw [epk]
   have wsub : wr .i64 ((i : Int) - val pk) = val (rlS l (2 * (j : Int) + 1)) := by rw [hr1, wr_in (by omega) (by omega)]
   have w2 : wr .i64 (2 * (j : Int) + 1 + 2) = 2 * ((j + 1 : Nat) : Int) + 1 := by rw [wr_in (by omega) (by omega)]; omega
   cases hfin : okTo (mT t) pk pk.length
   ·rw [hfin] at t9 eok
    simp -implicitDefEqProofs (maxSteps := 999999) (disch := first | with_reducible rfl | omega | (simp only [nA, nS, nD] <;> omega) | fail) only [go_sem, t1, t3, t4, t5, t6, t7, t9, t11, wsub, w2]
    exact ⟨_, _, F', rfl, D5, vo.skip eok, az5, (by simp [ev_c, ev_put, t1] <;> rfl), (by simp [ev_c, ev_put, t3] <;> rfl), (by simp [ev_c, ev_put, t4] <;> rfl), (by simp [ev_c, ev_put, t5] <;> rfl), (by simp [ev_c, ev_put, t6] <;> rfl), (by simp [ev_c, ev_put] <;> rfl)⟩
   ·rw [hfin] at t9 eok
    obtain ⟨rN, erN⟩ := Int.eq_ofNat_of_zero_le hr2.1
    rw [erN] at hr2 hr3 wsub
    have hrN : rN < N := by omega
    have hvo := vo.take eok hr4
    obtain ⟨kk, hkk, hkb, _⟩ := id vo
    have gB := D5.get
    have hr16 : r ≤ 9 + 1 := by
     have h1 := (hr4 (t.pieces.length)).2 (colL_big (rlS_inc incl _) (Nat.le_refl _))
     omega
    have wr1 : wr .i64 ((r : Int) + 1) = (r : Int) + 1 := wr_in (by omega) (by omega)
    have D6 := D5.put (by omega) s1M.wf (min (F' (i : Int)) ((r : Int) + 1))
    have k6 := Keeps.set h5 bF (.cells .rw (tab (fset F' (i : Int) (min (F' (i : Int)) ((r : Int) + 1))) N))
    have az6 := SlAt_keep2 az5 k6 fun _ b hb => bz b hb
    have ni := tab_at2 hi F'
    have nr := tab_at2 hrN F'
    rw [hr3] at nr
    simp -implicitDefEqProofs (maxSteps := 999999) (disch := first | with_reducible rfl | omega | (simp only [nA, nS, nD] <;> omega) | fail) only [go_sem, t1, t3, t4, t5, t6, t7, t9, t11, wsub, w2, q_iad_sl (nat_cst i) hi, q_iad_sl (nat_cst rN) hrN, Nat.mul_one, cells_of gB, gB, ni, nr, wr1, tab_st2 hi]
    exact ⟨_, _, _, rfl, D6, by rw [fset_eq]; exact hvo, az6, (by simp [ev_c, ev_put, t1] <;> rfl), (by simp [ev_c, ev_put, t3] <;> rfl), (by simp [ev_c, ev_put, t4] <;> rfl), (by simp [ev_c, ev_put, t5] <;> rfl), (by simp [ev_c, ev_put, t6] <;> rfl), (by simp [ev_c, ev_put] <;> rfl)⟩
  ·clear t1 t3 t4 t5 az D D1 D3 V0 gB
   rintro s ⟨tm, h4, F', rfl, D, vo, az, t1, t3, t4, t5, t6, t7⟩
   have hnl : ¬ 2 * ((2 ^ (l.length - 1) : Nat) : Int) + 1 < 2 * ((2 ^ (l.length - 1) : Nat) : Int) := by omega
   simp -implicitDefEqProofs (maxSteps := 999999) (disch := first | with_reducible rfl | omega | (simp only [nA, nS, nD] <;> omega) | fail) only [go_sem, t1, t3, t4, t5, t6, t7, lz, hset2, k2p, hnl]
   exact ⟨_, _, F', rfl, D, vo, (by simp [ev_c, ev_put, t1] <;> rfl), (by simp [ev_c, ev_put, t3] <;> rfl), (by simp [ev_c, ev_put, t4] <;> rfl), (by simp [ev_c, ev_put, t5] <;> rfl)⟩
  clear t1 t3 t4 t5 az D D1 D3 V0 gB
  obtain ⟨rfl, tm, h4, F', rfl, D, vo, t1, t3, t4, t5⟩ := hx1
  simp -implicitDefEqProofs (maxSteps := 999999) (disch := first | with_reducible rfl | omega | (simp only [nA, nS, nD] <;> omega) | fail) only [go_sem, t1, t3, t4, t5, wr_succ]
  exact ⟨_, _, F', rfl, ⟨D.sub, D.get, by rw [es]; exact D.few.next (by rw [el]; exact hall _ vo), by omega⟩, (by simp [ev_c, ev_put, t1] <;> rfl), (by simp [ev_c, ev_put, t3] <;> rfl), (by simp [ev_c, ev_put, t4] <;> rfl), (by simp [ev_c, ev_put] <;> rfl)⟩
 ·rintro s ⟨tm, hh, F, rfl, D, t1, t3, t4, t5⟩
  have hf := D.few
  rw [← h2p] at hf
  have hch := hf.last sy
  have eN1 : (2 : Int) ^ t.pieces.length - 1 = ((N - 1 : Nat) : Int) := by omega
  rw [eN1] at hch
  have wN : wr .i64 ((N : Int) - 1) = ((N - 1 : Nat) : Int) := by rw [wr_in (by omega) (by omega)]; omega
  have nN := tab_at2 (show N - 1 < N by omega) F
  rw [hch] at nN
  simp -implicitDefEqProofs (maxSteps := 999999) (disch := first | with_reducible rfl | omega | (simp only [nA, nS, nD] <;> omega) | fail) only [go_sem, t1, t3, t4, t5, Int.lt_irrefl, wN, q_iad_sl (nat_cst (N - 1)) (show N - 1 < N by omega), Nat.mul_one, cells_of D.get, nN]
  exact q _ (s1.trans (s1M.trans D.sub))
end Go.Ab.Tryz
