/- EyeEnough. Numbers as sets by bits; into how few sets, of each set from smaller ones. Plain. EyeMore: what one piece more does. Plain; the first rows of a slice. Some eyes, as the law tries them; which lists rise; slices.Compare. slices.Compact, rising, Enough. Witness, Needed. Tellers. Plain. The reference's searches: sets, members, first, Listed. The reference: Enough, Fewest, Witness, Needed. The reference: Fewest, Witness, Needed. The reference: Witness, Needed. -/
import Derived.Test.YtkjbamlcgojkmaaGreatG4
import Derived.Test.YtkjbamlcgojkmaaGreatG5
import Derived.Test.YtkjbamlcgojkmaaGreatG7
import Derived.Test.YtkjbamlcgojkmaaGreatG6
set_option linter.unusedSimpArgs false
set_option linter.unusedVariables false
namespace Go.Ab.Tryz
open Go.Ab.Silk (Inc bitsL bitsL_inc bitsL_onto)
def sAt (s : Int) : Nat → Int
  | 0 => s
  | k + 1 => sAt s k / 2
theorem sAt_nn {s : Int} (h : 0 ≤ s) : ∀ k, 0 ≤ sAt s k
  | 0 => h
  | k + 1 => by have := sAt_nn h k; simp only [sAt]; omega
theorem sAt_le {s : Int} (h : 0 ≤ s) : ∀ k, sAt s k ≤ s
  | 0 => Int.le_refl _
  | k + 1 => by have := sAt_le h k; have := sAt_nn h k; simp only [sAt]; omega
theorem sAt_half (s : Int) : ∀ k, sAt (s / 2) k = sAt s (k + 1)
  | 0 => rfl
  | k + 1 => by have := sAt_half s k; simp only [sAt] at *; omega
def bitC (s : Int) : Nat → Bool := fun k => decide (sAt s k % 2 = 1)
def lst (c : Nat → Bool) : Nat → List Int
  | 0 => []
  | n + 1 => lst c n ++ if c n = true then [(n : Int)] else []
theorem lst_len (c : Nat → Bool) : ∀ n, (lst c n).length ≤ n
  | 0 => Nat.le_refl _
  | n + 1 => by have := lst_len c n; simp only [lst, List.length_append]; split <;> simp <;> omega
theorem bitsL_snoc : ∀ (k : Nat) (s i : Int), bitsL (k + 1) s i = bitsL k s i ++ if bitC s k = true then [i + (k : Int)] else []
  | 0, s, i => by
    by_cases h : s % 2 = 1 <;> simp [bitsL, bitC, sAt, h]
  | k + 1, s, i => by
    have ih := bitsL_snoc k (s / 2) (i + 1)
    have e : bitC (s / 2) k = bitC s (k + 1) := by unfold bitC; rw [sAt_half]
    have e2 : i + 1 + (k : Int) = i + ((k + 1 : Nat) : Int) := by omega
    rw [e, e2] at ih
    rw [show bitsL (k + 1 + 1) s i = if s % 2 = 1 then i :: bitsL (k + 1) (s / 2) (i + 1) else bitsL (k + 1) (s / 2) (i + 1) from rfl, show bitsL (k + 1) s i = if s % 2 = 1 then i :: bitsL k (s / 2) (i + 1) else bitsL k (s / 2) (i + 1) from rfl, ih]
    split <;> simp
theorem lst_bits (s : Int) : ∀ n, lst (bitC s) n = bitsL n s 0
  | 0 => rfl
  | n + 1 => by rw [bitsL_snoc, ← lst_bits s n]; simp [lst]
theorem pow_le {i : Nat} (h : i ≤ 10) : 2 ^ i ≤ 1024 := Nat.le_trans (Nat.pow_le_pow_right (by omega) h) (by decide)
theorem lst_stop {s : Int} {i : Nat} (h : sAt s i = 0) : ∀ m, i ≤ m → lst (bitC s) m = lst (bitC s) i ∧ sAt s m = 0
  | 0, hm => by
    have : i = 0 := by omega
    subst this; exact ⟨rfl, h⟩
  | m + 1, hm => by
    by_cases e : i = m + 1
    · subst e; exact ⟨rfl, h⟩
    · obtain ⟨h1, h2⟩ := lst_stop h m (by omega)
      have hb : bitC s m = false := by unfold bitC; rw [h2]; rfl
      exact ⟨by simp [lst, h1, hb], by simp only [sAt]; omega⟩
theorem sAt_zero : ∀ (n : Nat) {s : Int}, 0 ≤ s → s < 2 ^ n → sAt s n = 0
  | 0, s, h0, h1 => by simp only [sAt]; simp at h1; omega
  | n + 1, s, h0, h1 => by
    rw [← sAt_half]
    exact sAt_zero n (by omega) (by rw [Int.pow_succ] at h1; omega)
theorem lst_all {s : Int} {n i : Nat} (h0 : 0 ≤ s) (h1 : s < 2 ^ n) (h : sAt s i = 0) : lst (bitC s) i = bitsL n s 0 := by
  rw [← lst_bits]
  have hn := sAt_zero n h0 h1
  by_cases c : i ≤ n
  · exact (lst_stop h n c).1.symm
  · exact (lst_stop hn i (by omega)).1
theorem bits_inc0 (n : Nat) (s : Int) : Inc n 0 (bitsL n s 0) := by have := bitsL_inc n s 0; rwa [Int.zero_add] at this
theorem inc_ext : ∀ {a b : List Int}, a.Pairwise (· < ·) → b.Pairwise (· < ·) → (∀ x, x ∈ a ↔ x ∈ b) → a = b
  | [], b, _, _, h => (List.eq_nil_iff_forall_not_mem.2 fun x hx => by have := (h x).2 hx; simp at this).symm
  | x :: a, [], _, _, h => by have := (h x).1 (by simp); simp at this
  | x :: a, y :: b, ha, hb, h => by
    rw [List.pairwise_cons] at ha hb
    have e : x = y := by
      have h1 := (h x).1 (by simp)
      have h2 := (h y).2 (by simp)
      rcases List.mem_cons.1 h1 with e | h1
      · exact e
      · rcases List.mem_cons.1 h2 with e | h2
        · exact e.symm
        · have := hb.1 x h1; have := ha.1 y h2; omega
    subst e
    rw [inc_ext ha.2 hb.2 fun z => ?_]
    constructor
    · intro hz
      rcases List.mem_cons.1 ((h z).1 (by simp [hz])) with e | h1
      · have := ha.1 z hz; omega
      · exact h1
    · intro hz
      rcases List.mem_cons.1 ((h z).2 (by simp [hz])) with e | h1
      · have := hb.1 z hz; omega
      · exact h1
end Go.Ab.Tryz
set_option linter.unusedSimpArgs false
set_option linter.unusedVariables false
namespace Go.Ab
theorem CutO.to {F : Nat → Prop} {h : H} {x : V} {sz k : Nat} {rows : List (List V)} (a : CutO F h x sz rows) (hsz : 0 < sz) (hl : rows.length ≤ 1000000) (hk : k ≤ rows.length) :
    ∃ y, slcTo h sz x (.int .i64 (k : Int)) = some y ∧ CutO F h y sz (rows.take k) ∧ ∀ b, blkOf y b → blkOf x b := by
  have hi : ∀ tm, (Opd.c (.int .i64 (k : Int))).ev tm = .int .i64 (k : Int) := fun _ => rfl
  obtain ⟨a1, a2⟩ := a
  have hr : ∀ r ∈ rows.take k, r.length = sz := fun r' hr => a1 r' (List.mem_of_mem_take hr)
  have hlt : (rows.take k).length = k := by rw [List.length_take]; omega
  have fl := flatten_len a1
  have fl2 := flatten_len hr
  rw [hlt] at fl2
  have esp : rows.flatten = (rows.take k).flatten ++ (rows.drop k).flatten := by rw [← List.flatten_append, List.take_append_drop]
  have hml := Nat.mul_le_mul_right sz hk
  have fld : (rows.drop k).flatten.length = rows.length * sz - k * sz := by
    have := congrArg List.length esp
    rw [List.length_append, fl, fl2] at this; omega
  rcases a2 with ⟨rfl, rfl⟩ | ⟨b, rest, j, rfl, l1, l2, hb, hrest⟩ | ⟨b, c, rest, rfl, l1, l2, hb, hc, hlc⟩
  · have hk0 : k = 0 := by simpa using hk
    subst hk0
    refine ⟨.nils, ?_, ⟨by simp, .inl ⟨rfl, rfl⟩⟩, fun b h => h⟩
    have e1 : Nat.ble 0 0 = true := rfl
    simp only [slcTo, q_slc, bnd3, natO, hi, natk_cst, bnds, e1, og_true]
  · rw [esp, List.append_assoc] at hb
    have e1 : Nat.ble 0 k = true := by simp
    have hall : ((rows.take k).flatten ++ ((rows.drop k).flatten ++ rest)).length = (rows.length + j) * sz := by rw [List.length_append, List.length_append, fl2, fld, hrest, Nat.add_mul]; omega
    have e2 : Nat.ble k (rows.length + j) = true := by simp; omega
    have e3 : Nat.ble (rows.length + j) (rows.length + j) = true := by simp
    have e5 : Nat.beq sz sz = true := by simp
    have e6 : Nat.beq 0 (0 * sz) = true := by simp
    have e7 : Nat.ble (0 + rows.length * sz) ((rows.take k).flatten ++ ((rows.drop k).flatten ++ rest)).length = true := by rw [hall, Nat.ble_eq, Nat.zero_add]; exact Nat.mul_le_mul_right _ (by omega)
    have e8 : slkRoom h b 0 sz = rows.length + j := by simp only [slkRoom, hb, lenN_eq, hall, Nat.sub_zero]; exact Nat.mul_div_cancel _ hsz
    have hcut : CutO F h (.sl b 0 k (.slk 0 0)) sz (rows.take k) := by
      refine ⟨hr, .inr (.inl ⟨b, (rows.drop k).flatten ++ rest, rows.length - k + j, by rw [hlt], l1, l2, hb, ?_⟩)⟩
      rw [List.length_append, fld, hrest, Nat.add_mul, Nat.sub_mul]
    by_cases h0 : 0 < rows.length + k
    · have e4 : Nat.blt 0 (rows.length + k) = true := by rw [Nat.blt_eq]; omega
      refine ⟨.sl b (0 + 0 * sz) k (.slk (0 + 0) 0), ?_, by rw [Nat.zero_mul]; exact hcut, ?_⟩
      · simp only [slcTo, q_slc, slkOk, hb, e5, e6, lenN_eq, e7, og_true, bnd3, natO, hi, natk_cst, bnds, e1, e2, e3, subS, e4, e8, Nat.sub_zero]
      · rintro b' ⟨_, _, _, e⟩; cases e; exact ⟨_, _, _, rfl⟩
    · have k0 : k = 0 := by omega
      have r0 : rows.length = 0 := by omega
      have e4 : Nat.blt 0 (rows.length + k) = false := by rw [k0, r0]; rfl
      refine ⟨.sl b 0 0 (.slk 0 0), ?_, by rw [k0] at hcut ⊢; exact hcut, ?_⟩
      · simp only [slcTo, q_slc, slkOk, hb, e5, e6, lenN_eq, e7, og_true, bnd3, natO, hi, natk_cst, bnds, e1, e2, e3, subS, e4, e8, Nat.sub_zero]
      · rintro b' ⟨_, _, _, e⟩; cases e; exact ⟨_, _, _, rfl⟩
  · rw [esp, List.append_assoc] at hb
    refine ⟨.sl b (bsel (Nat.beq c 0) 0 (0 + 0 * sz)) k (.fix c), ?_, ?_, ?_⟩
    · simp only [slcTo, q_slc]
      rw [subO_to (hi _) hk hlc]
    · have : bsel (Nat.beq c 0) 0 (0 + 0 * sz) = 0 := by cases Nat.beq c 0 <;> simp [bsel]
      rw [this]
      exact ⟨hr, .inr (.inr ⟨b, c, (rows.drop k).flatten ++ rest, by rw [hlt], l1, l2, hb, by rw [List.length_append, fld, hlt]; omega, by omega⟩)⟩
    · rintro b' ⟨_, _, _, e⟩; cases e; exact ⟨_, _, _, rfl⟩
end Go.Ab
namespace Go.Ab.Tryz
open Go.Ab.Silk (Inc)
end Go.Ab.Tryz
set_option linter.unusedSimpArgs false
set_option linter.unusedVariables false
namespace Go.Ab.Tryz
open Go.Ab.Silk (Inc lexlt)
theorem isNaN_eq (a : Int) (h : H) (R : V → H → Prop) : Ev fnG fastA (.fn 170 [] []) [.int .i64 a] h R = R (.bool false) h := by
  refine Ev.det (Ev_body (fd := c170) rfl rfl rfl ?_) R
  simp -implicitDefEqProofs (maxSteps := 999999) (disch := first | with_reducible rfl | omega | (simp only [nA, nS, nD] <;> omega) | fail) only [c170, go_sem, ne_eq, not_true_eq_false, not_false_eq_true]
theorem less_eq (a b : Int) (h : H) (Q : V → H → Prop) : Ev fnG fastA (.fn 165 [] []) [.int .i64 a, .int .i64 b] h Q = Q (.bool (decide (a < b))) h := by
  refine Ev.det (Ev_body (fd := c165) rfl rfl rfl ?_) Q
  simp -implicitDefEqProofs (maxSteps := 999999) (disch := first | with_reducible rfl | omega | (simp only [nA, nS, nD] <;> omega) | fail) only [c165, go_sem, isNaN_eq]
theorem adj_pw {R : Int → Int → Prop} (tr : ∀ a b c, R a b → R b c → R a c) : ∀ {l : List Int}, (∀ i (h : i + 1 < l.length), R l[i] l[i + 1]) → l.Pairwise R
  | [], _ => List.Pairwise.nil
  | [a], _ => by simp
  | a :: b :: l, h => by
    have ih := adj_pw tr (l := b :: l) fun i hi => h (i + 1) (by simpa using hi)
    rw [List.pairwise_cons] at ih ⊢
    have hab : R a b := h 0 (by simp)
    exact ⟨fun x hx => by
      rcases List.mem_cons.1 hx with rfl | hx
      · exact hab
      · exact tr _ _ _ hab (ih.1 x hx), List.pairwise_cons.2 ih⟩
theorem isSorted_ev {h : H} {x : V} {l : List Int} (hx : SlAt h x 1 (l.map encI)) (Q : V → H → Prop) : Ev fnG fastA (.fn 132 [] []) [x] h Q = Q (.bool (decide (l.Pairwise (· ≤ ·)))) h := by
  have hlx := hx.lenE
  have hbd := hx.boundE
  refine Ev.det (Ev_body (fd := c132) rfl rfl rfl ?_) Q
  have ew0 : wr .i64 ((l.length : Int) - 1) = (l.length : Int) - 1 := wr_in (by omega) (by omega)
  simp -implicitDefEqProofs (maxSteps := 999999) (disch := first | with_reducible rfl | omega | (simp only [nA, nS, nD] <;> omega) | fail) only [c132, go_sem, hlx]
  refine W_loop (fun k s => ∃ (tm : Go.Ab.T V) (i : Int), s = ⟨tm, h, []⟩ ∧ k = (i + 1).toNat ∧ -1 ≤ i ∧ i < l.length ∧ (i = -1 → l.length = 0) ∧ (∀ j (hj : j + 1 < l.length), i < ((j + 1 : Nat) : Int) → l[j] ≤ l[j + 1]) ∧ (Opd.t 0).ev tm = x ∧ (Opd.t 3).ev tm = .int .i64 i) ?_ l.length _ ⟨_, (l.length : Int) - 1, rfl, by omega, by omega, by omega, by omega, fun j hj h0 => by omega, (by simp [ev_c, ev_put] <;> rfl), (by simp [ev_c, ev_put, ew0] <;> rfl)⟩
  rintro k s ⟨tm, i, rfl, hk, i0, i1, i2, hord, t0, t3⟩
  by_cases hi : 0 < i
  · obtain ⟨n, rfl⟩ : ∃ n : Nat, i = ((n + 1 : Nat) : Int) := ⟨(i - 1).toNat, by omega⟩
    have hn1 : n + 1 < l.length := by omega
    have hn0 : n < l.length := by omega
    obtain ⟨b1, o1, c1, cs1, rfl, hc1, hq1, hg1, hn1', hn01⟩ := hx.at hn1
    obtain ⟨b2, o2, c2, cs2, e2, hc2, hq2, hg2, hn2', hn02⟩ := hx.at hn0
    have ew : wr .i64 (((n + 1 : Nat) : Int) - 1) = (n : Int) := by rw [wr_in (by omega) (by omega)]; omega
    by_cases hlt : l[n + 1] < l[n]
    · have hf : decide (l.Pairwise (· ≤ ·)) = false := decide_eq_false fun hp => by
        have := List.pairwise_iff_getElem.1 hp n (n + 1) hn0 hn1 (by omega); omega
      have dl : decide (l[n + 1] < l[n]) = true := decide_eq_true hlt
      simp -implicitDefEqProofs (maxSteps := 999999) (disch := first | with_reducible rfl | omega | (simp only [nA, nS, nD] <;> omega) | fail) only [go_sem, t0, t3, hi, hq1 (nat_cst (n + 1)), hc1, hn01 (by omega), ew, hq2 (nat_cst n), hc2, hn02 (by omega), encI, less_eq, dl, hf]
    · have dl : decide (l[n + 1] < l[n]) = false := decide_eq_false hlt
      simp -implicitDefEqProofs (maxSteps := 999999) (disch := first | with_reducible rfl | omega | (simp only [nA, nS, nD] <;> omega) | fail) only [go_sem, t0, t3, hi, hq1 (nat_cst (n + 1)), hc1, hn01 (by omega), ew, hq2 (nat_cst n), hc2, hn02 (by omega), encI, less_eq, dl]
      exact ⟨n + 1, by omega, _, (n : Int), rfl, by omega, by omega, by omega, by omega, fun j hj h0 => by
        by_cases e : j = n
        · subst e; omega
        · exact hord j hj (by omega), (by simp [ev_c, ev_put, t0] <;> rfl), (by simp [ev_c, ev_put, ew] <;> rfl)⟩
  · have ht : decide (l.Pairwise (· ≤ ·)) = true := decide_eq_true (adj_pw (R := fun a b => a ≤ b) (fun a b c h1 h2 => Int.le_trans h1 h2) fun j hj => hord j hj (by omega))
    simp -implicitDefEqProofs (maxSteps := 999999) (disch := first | with_reducible rfl | omega | (simp only [nA, nS, nD] <;> omega) | fail) only [go_sem, t0, t3, hi, ht]
end Go.Ab.Tryz
set_option linter.unusedSimpArgs false
set_option linter.unusedVariables false
namespace Go.Ab
theorem nth_iv {L : List Int} {i : Nat} (h : i < L.length) : nth i (L.map iv) = some (.int .i64 L[i]) := by
  rw [nth_eq, List.getElem?_map, List.getElem?_eq_getElem h]; rfl
theorem put_iv {L : List Int} {i : Nat} (h : i < L.length) (v : Int) : putN i [.int .i64 v] (L.map iv) = some ((L.set i v).map iv) := by
  have e : L = L.take i ++ L[i] :: L.drop (i + 1) := by rw [← List.drop_eq_getElem_cons h, List.take_append_drop]
  have := putN_app (pre := (L.take i).map iv) (new := [iv v]) (old := [iv L[i]]) (rest := (L.drop (i + 1)).map iv) rfl
  rw [List.length_map, List.length_take, Nat.min_eq_left (by omega)] at this
  have e2 : L.map iv = (L.take i).map iv ++ [iv L[i]] ++ (L.drop (i + 1)).map iv := by
    rw [show [iv L[i]] = [L[i]].map iv from rfl, ← List.map_append, ← List.map_append, List.append_assoc]
    exact congrArg (List.map iv) e
  have e3 : (L.set i v).map iv = (L.take i).map iv ++ [iv v] ++ (L.drop (i + 1)).map iv := by
    rw [List.set_eq_take_append_cons_drop, if_pos h]; simp
  rw [e2, e3]; exact this
theorem slcFrom_gr {h : H} {b k : Nat} {L : List Int} (hb : h.get b = some (.cells (.gr 1) (L.map iv))) (h0 : 0 < L.length) (hk : k ≤ L.length) : slcFrom h 1 (.sl b 0 L.length (.slk 0 0)) (.int .i64 (k : Int)) = some (.sl b k (L.length - k) (.slk k 0)) := by
  have hi : ∀ tm : T V, (Opd.c (.int .i64 (k : Int))).ev tm = .int .i64 (k : Int) := fun _ => rfl
  have e1 : Nat.ble k L.length = true := by simp; exact hk
  have e2 : Nat.ble L.length L.length = true := by simp
  have e4 : Nat.blt 0 (L.length + L.length) = true := by rw [Nat.blt_eq]; omega
  have e5 : Nat.beq 1 1 = true := rfl
  have e6 : Nat.beq 0 (0 * 1) = true := rfl
  have e7 : Nat.ble L.length (L.map iv).length = true := by simp
  have e8 : slkRoom h b 0 1 = L.length := by simp [slkRoom, hb, lenN_eq]
  simp only [slcFrom, q_slc, slkOk, hb, lenN_eq, e5, e6, e7, og_true, e8, bnd3, natO, hi, natk_cst, bnds, e1, e2, subS, e4, Nat.mul_one, Nat.zero_add]
namespace Tryz
open Go.Ab.Silk (Inc lexlt)
def Adj (l : List Int) : Prop := ∀ i (h : i + 1 < l.length), l[i] ≠ l[i + 1]
set_option maxHeartbeats 2000000 in
theorem compact_ev {h : H} {b : Nat} {l : List Int} (hw : h.wf) (hb : h.get b = some (.cells (.gr 1) (l.map iv))) (h2 : 2 ≤ l.length) (hl : l.length ≤ 1000) (Q : V → H → Prop)
    (q : ∀ y h' (m : Nat), q_len y = some (.int .i64 (m : Int)) → (Adj l → m = l.length) → (¬ Adj l → m < l.length) → Keeps (fun c => c = b) h h' → h'.wf → Q y h') : Ev fnG fastA (.fn 133 [] []) [.sl b 0 l.length (.slk 0 0)] h Q := by
  refine Ev_body (fd := c133) rfl rfl rfl ?_
  have hn2 : ¬ (l.length : Int) < 2 := by omega
  have hiad : ∀ k : Nat, k < l.length → q_iad 1 (.sl b 0 l.length (.slk 0 0)) (.int .i64 (k : Int)) = some (.ptr b k) := fun k hk => by
    rw [q_iad_sl (nat_cst k) hk, Nat.mul_one, Nat.zero_add]
  simp -implicitDefEqProofs (maxSteps := 999999) (disch := first | with_reducible rfl | omega | (simp only [nA, nS, nD] <;> omega) | fail) only [c133, go_sem, hn2]
  refine W_loop (fun kk s => ∃ tm i, s = ⟨tm, h, []⟩ ∧ kk = l.length - i ∧ 1 ≤ i ∧ i ≤ l.length ∧ (∀ j (hj : j + 1 < l.length), j + 1 < i → l[j] ≠ l[j + 1]) ∧ (Opd.t 0).ev tm = .sl b 0 l.length (.slk 0 0) ∧ (Opd.t 3).ev tm = .int .i64 (i : Int)) ?_ (l.length - 1) _ ⟨_, 1, rfl, rfl, Nat.le_refl _, by omega, fun j hj h0 => by omega, (by simp [ev_c, ev_put] <;> rfl), (by simp [ev_c, ev_put] <;> rfl)⟩
  rintro kk s ⟨tm, i, rfl, hkk, i1, i2, hadj, t0, t3⟩
  by_cases hi : i < l.length
  · have hi' : (i : Int) < (l.length : Int) := by omega
    have e1 : (i : Int) - 1 = ((i - 1 : Nat) : Int) := by omega
    have n1 := nth_iv hi
    have n2 := nth_iv (L := l) (i := i - 1) (by omega)
    by_cases heq : l[i] = l[i - 1]
    · have hna : ¬ Adj l := fun ha => by
        have := ha (i - 1) (by omega)
        simp only [show i - 1 + 1 = i by omega] at this
        exact this heq.symm
      have deq : decide (l[i] = l[i - 1]) = true := decide_eq_true heq
      have hfrom := slcFrom_gr hb (by omega) (k := i) (by omega)
      have lb := hw _ _ hb
      simp -implicitDefEqProofs (maxSteps := 999999) (disch := first | with_reducible rfl | omega | (simp only [nA, nS, nD] <;> omega) | fail) only [go_sem, t0, t3, hi', wr_in, e1, hiad i hi, hiad (i - 1) (by omega), cells_of hb, n1, n2, deq, q_slc_from, hfrom]
      refine W.mono (Q := fun x1 s => x1 = .ext 2 ∧ ∃ (tm : Go.Ab.T V) (hh : H) (L : List Int) (m : Nat), s = ⟨tm, hh, []⟩ ∧ Keeps (fun c => c = b) h hh ∧ hh.wf ∧ hh.get b = some (.cells (.gr 1) (L.map iv)) ∧ L.length = l.length ∧ m < l.length ∧ (Opd.t 0).ev tm = .sl b 0 l.length (.slk 0 0) ∧ (Opd.t 3).ev tm = .int .i64 (m : Int))
        (W_loop (fun kk s => ∃ (tm : Go.Ab.T V) (hh : H) (L : List Int) (m k2 : Nat), s = ⟨tm, hh, []⟩ ∧ kk = l.length - i - k2 ∧ 1 ≤ k2 ∧ i + k2 ≤ l.length ∧ m + 1 ≤ i + k2 ∧ Keeps (fun c => c = b) h hh ∧ hh.wf ∧ hh.get b = some (.cells (.gr 1) (L.map iv)) ∧ L.length = l.length ∧
          (Opd.t 0).ev tm = .sl b 0 l.length (.slk 0 0) ∧ (Opd.t 3).ev tm = .int .i64 (m : Int) ∧ (Opd.t 4).ev tm = .sl b i (l.length - i) (.slk i 0) ∧ (Opd.t 5).ev tm = .int .i64 (k2 : Int)) ?_ (l.length - i - 1) _
          ⟨_, _, l, i, 1, rfl, rfl, Nat.le_refl _, by omega, by omega, Keeps.refl _ _, hw, hb, rfl, (by simp [ev_c, ev_put, t0] <;> rfl), (by simp [ev_c, ev_put, t3] <;> rfl), (by simp [ev_c, ev_put] <;> rfl), (by simp [ev_c, ev_put] <;> rfl)⟩) fun x1 s hx1 => ?_
      · rintro kk s ⟨tm, hh, L, m, k2, rfl, hkk, k1, k3, k4, kp, wh, gL, hL, t0, t3, t4, t5⟩
        by_cases hk : k2 < l.length - i
        · have hk' : (k2 : Int) < ((l.length - i : Nat) : Int) := by omega
          have e2 : (k2 : Int) - 1 = ((k2 - 1 : Nat) : Int) := by omega
          have a1 : q_iad 1 (.sl b i (l.length - i) (.slk i 0)) (.int .i64 (k2 : Int)) = some (.ptr b (i + k2)) := by rw [q_iad_sl (nat_cst k2) hk, Nat.mul_one]
          have a2 : q_iad 1 (.sl b i (l.length - i) (.slk i 0)) (.int .i64 ((k2 - 1 : Nat) : Int)) = some (.ptr b (i + (k2 - 1))) := by rw [q_iad_sl (nat_cst (k2 - 1)) (by omega), Nat.mul_one]
          have a3 := hiad m (by omega)
          have v1 := nth_iv (L := L) (i := i + k2) (by omega)
          have v2 := nth_iv (L := L) (i := i + (k2 - 1)) (by omega)
          cases hd : decide (L[i + k2]'(by omega) ≠ L[i + (k2 - 1)]'(by omega)) with
          | false =>
            simp -implicitDefEqProofs (maxSteps := 999999) (disch := first | with_reducible rfl | omega | (simp only [nA, nS, nD] <;> omega) | fail) only [go_sem, t0, t3, t4, t5, hk', wr_in, e2, a1, a2, cells_of gL, v1, v2, hd, wr_succ]
            exact ⟨_, by omega, _, _, L, m, k2 + 1, rfl, rfl, by omega, by omega, by omega, kp, wh, gL, hL, (by simp [ev_c, ev_put, t0] <;> rfl), (by simp [ev_c, ev_put, t3] <;> rfl), (by simp [ev_c, ev_put, t4] <;> rfl), (by simp [ev_c, ev_put] <;> rfl)⟩
          | true =>
            have hp := put_iv (L := L) (i := m) (by omega) (L[i + k2]'(by omega))
            simp -implicitDefEqProofs (maxSteps := 999999) (disch := first | with_reducible rfl | omega | (simp only [nA, nS, nD] <;> omega) | fail) only [go_sem, t0, t3, t4, t5, hk', wr_in, e2, a1, a2, a3, cells_of gL, gL, v1, v2, hd, hp, wr_succ]
            exact ⟨_, by omega, _, _, _, m + 1, k2 + 1, rfl, rfl, by omega, by omega, by omega, (kp.trans (Keeps.set hh b _)).mono fun c h => h.elim id id, H.wf_set wh _ gL, get_set_same rfl, by rw [List.length_set]; exact hL, (by simp [ev_c, ev_put, t0] <;> rfl), (by simp [ev_c, ev_put] <;> rfl), (by simp [ev_c, ev_put, t4] <;> rfl), (by simp [ev_c, ev_put] <;> rfl)⟩
        · have hk' : ¬ (k2 : Int) < ((l.length - i : Nat) : Int) := by omega
          simp -implicitDefEqProofs (maxSteps := 999999) (disch := first | with_reducible rfl | omega | (simp only [nA, nS, nD] <;> omega) | fail) only [go_sem, t0, t3, t4, t5, hk']
          exact ⟨_, _, L, m, rfl, kp, wh, gL, hL, by omega, (by simp [ev_c, ev_put, t0] <;> rfl), (by simp [ev_c, ev_put, t3] <;> rfl)⟩
      clear t0 t3
      obtain ⟨rfl, tm, hh, L, m, rfl, kp, wh, gL, hL, hm, t0, t3⟩ := hx1
      have f1 := slcFrom_gr gL (by omega) (k := m) (by omega)
      rw [hL] at f1
      obtain ⟨n, hn⟩ : ∃ n, l.length - m = n + 1 := ⟨l.length - m - 1, by omega⟩
      have hrep : ∀ n, repN n [V.int .i64 0] = (List.replicate n (0 : Int)).map iv := fun n => by
        induction n with
        | zero => rfl
        | succ n ih => simp only [repN, appN_eq, ih, List.replicate_succ, List.map_cons]; rfl
      have hp : putN m ((List.replicate (n + 1) (0 : Int)).map iv) (L.map iv) = some ((L.take m ++ List.replicate (n + 1) 0).map iv) := by
        have := putN_app (pre := (L.take m).map iv) (new := (List.replicate (n + 1) (0 : Int)).map iv) (old := (L.drop m).map iv) (rest := []) (by simp; omega)
        rw [List.length_map, List.length_take, Nat.min_eq_left (by omega), List.append_nil, List.append_nil, ← List.map_append, List.take_append_drop, ← List.map_append] at this
        exact this
      have ho : allOne ((List.replicate (n + 1) (0 : Int)).map iv) = true := by
        rw [allOne_eq]
        intro v hv
        obtain ⟨_, _, rfl⟩ := List.mem_map.1 hv; rfl
      have hclr : e_clr hh [V.int .i64 0] (.sl b m (l.length - m) (.slk m 0)) = some (.und, hh.set b (.cells (.gr 1) ((L.take m ++ List.replicate (n + 1) 0).map iv))) := by
        rw [e_clr_sl, hn, hrep]
        rw [List.replicate_succ, List.map_cons] at hp ho ⊢
        rw [H.put_gr ho gL hp, withV_some]
      have wS := H.wf_set wh (.cells (.gr 1) ((L.take m ++ List.replicate (n + 1) 0).map iv)) gL
      have gS : (hh.set b (.cells (.gr 1) ((L.take m ++ List.replicate (n + 1) 0).map iv))).get b = some (.cells (.gr 1) ((L.take m ++ List.replicate (n + 1) 0).map iv)) := get_set_same rfl
      have ll : (L.take m ++ List.replicate (n + 1) (0 : Int)).length = l.length := by simp; omega
      have lbS : b < (hh.set b (.cells (.gr 1) ((L.take m ++ List.replicate (n + 1) 0).map iv))).next := wS _ _ gS
      have ct : CutO (fun _ => True) (hh.set b (.cells (.gr 1) ((L.take m ++ List.replicate (n + 1) 0).map iv))) (.sl b 0 l.length (.slk 0 0)) 1 ((L.take m ++ List.replicate (n + 1) (0 : Int)).map encI) :=
        ⟨fun r hr => by obtain ⟨_, _, rfl⟩ := List.mem_map.1 hr; rfl, .inr (.inl ⟨b, [], 0, by rw [List.length_map, ll], trivial, lbS, by rw [List.append_nil, map_flat]; exact gS, by simp⟩)⟩
      obtain ⟨y, hy1, hy2, hy3⟩ := ct.to (k := m) (by omega) (by rw [List.length_map, ll]; omega) (by rw [List.length_map, ll]; omega)
      have ly : q_len y = some (.int .i64 (m : Int)) := by
        have := (hy2.sl (by rw [List.length_take, List.length_map, ll]; omega)).len
        rw [this, List.length_take, List.length_map, ll, Nat.min_eq_left (by omega)]
      simp -implicitDefEqProofs (maxSteps := 999999) (disch := first | with_reducible rfl | omega | (simp only [nA, nS, nD] <;> omega) | fail) only [go_sem, t0, t3, q_slc_from, f1, WI_clr, hclr, q_slc_to, hy1]
      exact q y _ m ly (fun ha => absurd ha hna) (fun _ => hm) ((kp.trans (Keeps.set hh b _)).mono fun c h => h.elim id id) wS
    · have deq : decide (l[i] = l[i - 1]) = false := decide_eq_false heq
      simp -implicitDefEqProofs (maxSteps := 999999) (disch := first | with_reducible rfl | omega | (simp only [nA, nS, nD] <;> omega) | fail) only [go_sem, t0, t3, hi', wr_in, e1, hiad i hi, hiad (i - 1) (by omega), cells_of hb, n1, n2, deq, wr_succ]
      exact ⟨_, by omega, _, i + 1, rfl, rfl, by omega, by omega, fun j hj h0 => by
        by_cases e : j + 1 = i
        · subst e; exact fun h => heq h.symm
        · exact hadj j hj (by omega), (by simp [ev_c, ev_put, t0] <;> rfl), (by simp [ev_c, ev_put] <;> rfl)⟩
  · have hi' : ¬ (i : Int) < (l.length : Int) := by omega
    simp -implicitDefEqProofs (maxSteps := 999999) (disch := first | with_reducible rfl | omega | (simp only [nA, nS, nD] <;> omega) | fail) only [go_sem, t0, t3, hi']
    exact q _ _ l.length rfl (fun _ => rfl) (fun hna => absurd (fun j hj => hadj j hj (by omega)) hna) (Keeps.refl _ _) hw
theorem cloneGr_ev {h : H} {x : V} {l : List Int} (hw : h.wf) (hx : SlAt h x 1 (l.map encI)) (hl : l.length ≤ 1000000) (h0 : 0 < l.length) (Q : V → H → Prop) (q : ∀ b h', h.Sub h' → h.next ≤ b → h'.get b = some (.cells (.gr 1) (l.map iv)) → Q (.sl b 0 l.length (.slk 0 0)) h') : Ev fnG fastA (.fn 134 [] []) [x] h Q := by
  refine Ev_body (fd := c134) rfl rfl rfl ?_
  rcases hx.2.2 with ⟨rfl, e⟩ | ⟨b, o, c, cs, rfl, _⟩
  · have := congrArg List.length e; simp at this; rw [this] at h0; simp at h0
  · simp -implicitDefEqProofs (maxSteps := 999999) (disch := first | with_reducible rfl | omega | (simp only [nA, nS, nD] <;> omega) | fail) only [c134, go_sem]
    have s1 : h.Sub (h.add (.cells .rw [])) := (H.Sub.refl hw).add _
    have hx1 := (hx.mono s1).elems
    rw [map_flat, List.length_map] at hx1
    rw [List.length_map]
    obtain ⟨k, hk⟩ : ∃ k, l.length = k + 1 := ⟨l.length - 1, by omega⟩
    rw [e_app_eq, hx1.1, hx1.2]
    simp only [ob_some]
    rw [hk, e_app_full (by omega) (elems_0 _ _ _ _ _) (by simp only [Nat.zero_add]; omega) (by omega), grown_eq, P2_some]
    simp -implicitDefEqProofs (maxSteps := 999999) (disch := first | with_reducible rfl | omega | (simp only [nA, nS, nD] <;> omega) | fail) only [go_sem]
    have := q (h.next + 1) ((h.add (.cells .rw [])).add (.cells (.gr 1) (l.map iv))) (s1.add _) (by omega) (get_add_new (by rw [H.next_add]))
    rw [hk] at this
    simpa using this
theorem lt_iff {l : List Int} : l.Pairwise (· < ·) ↔ l.Pairwise (· ≤ ·) ∧ Adj l := by
  constructor
  · intro h
    exact ⟨h.imp fun h => by omega, fun i hi => by
      have := List.pairwise_iff_getElem.1 h i (i + 1) (by omega) hi (by omega); omega⟩
  · rintro ⟨h1, h2⟩
    refine adj_pw (R := fun a b => a < b) (fun a b c h1 h2 => Int.lt_trans h1 h2) fun i hi => ?_
    have := List.pairwise_iff_getElem.1 h1 i (i + 1) (by omega) hi (by omega)
    have := h2 i hi
    show l[i] < l[i + 1]
    omega
theorem rising_ev {h : H} {x : V} {l : List Int} (hw : h.wf) (hx : SlAt h x 1 (l.map encI)) (hl : l.length ≤ 1000) (Q : V → H → Prop) (q : ∀ h', h.Sub h' → Q (.bool (decide (l.Pairwise (· < ·)))) h') : Ev fnG fastA (.fn 80 [] []) [x] h Q := by
  have hlx := hx.lenE
  refine Ev_body (fd := c80) rfl rfl rfl ?_
  by_cases h1 : l.Pairwise (· ≤ ·)
  · have d1 : decide (l.Pairwise (· ≤ ·)) = true := decide_eq_true h1
    by_cases h2 : 2 ≤ l.length
    · simp -implicitDefEqProofs (maxSteps := 999999) (disch := first | with_reducible rfl | omega | (simp only [nA, nS, nD] <;> omega) | fail) only [c80, go_sem, isSorted_ev hx, d1]
      refine cloneGr_ev hw hx (by omega) (by omega) _ fun b h3 s3 nb g3 => ?_
      simp -implicitDefEqProofs (maxSteps := 999999) (disch := first | with_reducible rfl | omega | (simp only [nA, nS, nD] <;> omega) | fail) only [go_sem]
      refine compact_ev s3.wf g3 h2 hl _ fun y h4 m ly m1 m2 k4 w4 => ?_
      have e : decide ((m : Int) = (l.length : Int)) = decide (l.Pairwise (· < ·)) := by
        rw [decide_eq_decide, lt_iff]
        constructor
        · intro he
          refine ⟨h1, Classical.byContradiction fun hna => ?_⟩
          have := m2 hna; omega
        · rintro ⟨_, ha⟩
          rw [m1 ha]
      simp -implicitDefEqProofs (maxSteps := 999999) (disch := first | with_reducible rfl | omega | (simp only [nA, nS, nD] <;> omega) | fail) only [go_sem, ly, hlx, e]
      exact q _ (k4.sub s3 hw (fun c hc => by omega) w4)
    · have hp : decide (l.Pairwise (· < ·)) = true := decide_eq_true (lt_iff.2 ⟨h1, fun i hi => by omega⟩)
      rw [hp] at q
      simp -implicitDefEqProofs (maxSteps := 999999) (disch := first | with_reducible rfl | omega | (simp only [nA, nS, nD] <;> omega) | fail) only [c80, go_sem, isSorted_ev hx, d1]
      refine cloneInt_ev hw hx (by rw [List.length_map]; omega) _ fun v h3 ov => ?_
      have lv := (ov.sl (by simp only [List.length_map]; omega)).lenE
      simp -implicitDefEqProofs (maxSteps := 999999) (disch := first | with_reducible rfl | omega | (simp only [nA, nS, nD] <;> omega) | fail) only [go_sem]
      refine Ev_body (fd := c133) rfl rfl rfl ?_
      have hn2 : (l.length : Int) < 2 := by omega
      have ee : decide ((l.length : Int) = (l.length : Int)) = true := decide_eq_true rfl
      simp -implicitDefEqProofs (maxSteps := 999999) (disch := first | with_reducible rfl | omega | (simp only [nA, nS, nD] <;> omega) | fail) only [c133, go_sem, lv, hn2, hlx, ee]
      exact q _ ov.1
  · have d1 : decide (l.Pairwise (· ≤ ·)) = false := decide_eq_false h1
    have d2 : decide (l.Pairwise (· < ·)) = false := decide_eq_false fun h => h1 (lt_iff.1 h).1
    rw [d2] at q
    simp -implicitDefEqProofs (maxSteps := 999999) (disch := first | with_reducible rfl | omega | (simp only [nA, nS, nD] <;> omega) | fail) only [c80, go_sem, isSorted_ev hx, d1]
    exact q _ (H.Sub.refl hw)
def isEy (t : Tb) (p : Int) : Bool := decide (0 ≤ p ∧ p < (t.eyes.length : Int))
theorem eye_ev {h : H} {E L P : V} {t : Tb} (hw : h.wf) (ht : TbIs h (.agg [E, L, P]) t) (p : Int) (Q : V → H → Prop) (q : ∀ h', h.Sub h' → Q (.bool (isEy t p)) h') : Ev fnG fastA (.fn 92 [] []) [.agg [E, L, P], .int .i64 p] h Q := by
  obtain ⟨E', L', P', e, aE, aL, aP⟩ := ht
  cases e
  have hlE := aE.lenE
  have bE := aE.boundE
  refine Ev_body (fd := c92) rfl rfl rfl ?_
  have e : inB p 0 ((t.eyes.length : Int) - 1) = isEy t p := by unfold inB isEy; rw [Bool.eq_iff_iff]; simp; omega
  simp -implicitDefEqProofs (maxSteps := 999999) (disch := first | with_reducible rfl | omega | (simp only [nA, nS, nD] <;> omega) | fail) only [c92, go_sem, hlE, wr_in, in_ev, e]
  exact q _ ((by repeat (first | assumption | exact H.Sub.refl (by assumption) | refine H.Sub.add ?_ _ | refine H.Sub.set ?_ (by first | omega | (simp only [H.next_add, H.next_set, H.next_del] <;> omega)) (by first | omega | (simp only [H.next_add, H.next_set, H.next_del] <;> omega)) (by assumption) _)))
def lstE (t : Tb) (l : List Int) : Int := if check t ≠ 0 then check t else if l.all (isEy t) = false then 1 else if decide (l.Pairwise (· < ·)) = false then 4 else 0
def enR (t : Tb) (l : List Int) : Bool := decide (lstE t l = 0) && enoughB t l
theorem Enough_ev {h : H} {v x : V} {t : Tb} {l : List Int} (hw : h.wf) (ht : TbIs h v t) (hx : SlAt h x 1 (l.map encI)) (hl : l.length ≤ 1000) (Q : V → H → Prop) (q : ∀ h', h.Sub h' → Q (.tup [.bool (enR t l), .int .i64 (lstE t l)]) h') : Ev fnG fastA (.fn 32 [] []) [v, x] h Q := by
  have ht0 := ht
  obtain ⟨E, L, P, rfl, aE, aL, aP⟩ := ht
  refine Ev_body (fd := c32) rfl rfl rfl ?_
  have s1 : h.Sub (h.add (.cells .rw [E, L, P])) := (by repeat (first | assumption | exact H.Sub.refl (by assumption) | refine H.Sub.add ?_ _ | refine H.Sub.set ?_ (by first | omega | (simp only [H.next_add, H.next_set, H.next_del] <;> omega)) (by first | omega | (simp only [H.next_add, H.next_set, H.next_del] <;> omega)) (by assumption) _))
  have g1 : (h.add (.cells .rw [E, L, P])).cells h.next = some [E, L, P] := cells_add_new rfl
  have bad : ∀ h', h.Sub h' → ∀ e : Int, e ≠ 0 → lstE t l = e → Q (.tup [.bool false, .int .i64 e]) h' := fun h' s e he e1 => by
    have q' := q _ s
    have : enR t l = false := by unfold enR; rw [e1, decide_eq_false he]; rfl
    rw [this, e1] at q'; exact q'
  simp -implicitDefEqProofs (maxSteps := 999999) (disch := first | with_reducible rfl | omega | (simp only [nA, nS, nD] <;> omega) | fail) only [c32, go_sem]
  refine opened_use s1.wf (ht0.mono s1) _ (fun h5 s45 c => ?_) fun h5 d s15 c g hd => ?_
  · simp -implicitDefEqProofs (maxSteps := 999999) (disch := first | with_reducible rfl | omega | (simp only [nA, nS, nD] <;> omega) | fail) only [go_sem, ne_eq, c, not_false_eq_true]
    exact bad _ (s1.trans s45) _ c (by unfold lstE; rw [if_pos c])
  have s5 := s1.trans s15
  simp -implicitDefEqProofs (maxSteps := 999999) (disch := first | with_reducible rfl | omega | (simp only [nA, nS, nD] <;> omega) | fail) only [go_sem, ne_eq, not_true_eq_false, s15.cells g1]
  refine (everyInt_ev (p := isEy t) s15.wf (hx.mono s5) fun a _ => fun h6 s6 => Ev.gen fun Q q => Ev_bound (eye_ev s6.wf (ht0.mono (s5.trans s6)) a _ fun h7 s7 => q _ _ ⟨rfl, s7⟩)).mono fun u h8 hu => ?_
  obtain ⟨rfl, s8⟩ := hu
  have s58 := s5.trans s8
  cases ha : l.all (isEy t)
  · simp -implicitDefEqProofs (maxSteps := 999999) (disch := first | with_reducible rfl | omega | (simp only [nA, nS, nD] <;> omega) | fail) only [go_sem, Bool.not_false]
    exact bad _ s58 1 (by decide) (by unfold lstE; rw [if_neg (by simp [c]), if_pos ha])
  simp -implicitDefEqProofs (maxSteps := 999999) (disch := first | with_reducible rfl | omega | (simp only [nA, nS, nD] <;> omega) | fail) only [go_sem, Bool.not_true]
  refine rising_ev s8.wf (hx.mono s58) hl _ fun h9 s9 => ?_
  have s59 := s58.trans s9
  cases hr : decide (l.Pairwise (· < ·))
  · simp -implicitDefEqProofs (maxSteps := 999999) (disch := first | with_reducible rfl | omega | (simp only [nA, nS, nD] <;> omega) | fail) only [go_sem, Bool.not_false]
    exact bad _ s59 4 (by decide) (by unfold lstE; rw [if_neg (by simp [c]), if_neg (by simp [ha]), if_pos hr])
  have e0 : lstE t l = 0 := by unfold lstE; rw [if_neg (by simp [c]), if_neg (by simp [ha]), if_neg (by rw [hr]; simp)]
  simp -implicitDefEqProofs (maxSteps := 999999) (disch := first | with_reducible rfl | omega | (simp only [nA, nS, nD] <;> omega) | fail) only [go_sem, Bool.not_true]
  refine enough_ev s9.wf (hd.mono (s8.trans s9)) g (hx.mono s59) _ fun hA sA => ?_
  have q' := q _ (s59.trans sA)
  have : enR t l = enoughB t l := by unfold enR; rw [e0]; simp
  rw [this, e0] at q'
  simp -implicitDefEqProofs (maxSteps := 999999) (disch := first | with_reducible rfl | omega | (simp only [nA, nS, nD] <;> omega) | fail) only [go_sem]
  exact q'
end Tryz
end Go.Ab
set_option linter.unusedSimpArgs false
set_option linter.unusedVariables false
namespace Go.Ab.Tryz
open Go.Ab.Silk (Inc lexlt IsMin)
def witF (t : Tb) (e : Int) (a b : Nat) : Option (Nat × Nat) := if a < b ∧ tellP t a b = [e] then some (a, b) else none
def wit (t : Tb) (e : Int) : Option (Nat × Nat) := (List.range t.pieces.length).findSome? fun a => (List.range t.pieces.length).findSome? fun b => witF t e a b
def witV (r : Option (Nat × Nat)) : V := match r with | some p => .tup [.int .i64 (p.1 : Int), .int .i64 (p.2 : Int), .bool true] | none => .tup [.int .i64 0, .int .i64 0, .bool false]
theorem tellP_len {t : Tb} (g : Good t) (r p : Nat) : (tellP t r p).length ≤ 6 := by
  have := g.eyes
  unfold tellP
  split
  · exact Nat.le_trans (tellK_len _ _ _ _) (by omega)
  · simp
set_option maxHeartbeats 1000000 in
theorem witness_ev {h : H} {d : Nat} {t : Tb} (hw : h.wf) (hd : DkAt h d t) (g : Good t) (e : Int) (Q : V → H → Prop) (q : ∀ h', h.Sub h' → Q (witV (wit t e)) h') : Ev fnG fastA (.fn 96 [] []) [.ptr d 0, .int .i64 e] h Q := by
  obtain ⟨E, L, P, gd, aE, aL, aP⟩ := id hd
  have gp := g.pieces
  have hlP := aP.lenE
  refine Ev_body (fd := c96) rfl rfl rfl ?_
  simp -implicitDefEqProofs (maxSteps := 999999) (disch := first | with_reducible rfl | omega | (simp only [nA, nS, nD] <;> omega) | fail) only [c96, go_sem, cells_of gd, hlP]
  refine W_count t.pieces.length (fun a s => ∃ tm h', s = ⟨tm, h', []⟩ ∧ h.Sub h' ∧ (∀ a', a' < a → ((List.range t.pieces.length).findSome? fun b => witF t e a' b) = none) ∧ (Opd.t 0).ev tm = .ptr d 0 ∧ (Opd.t 1).ev tm = .int .i64 e ∧ (Opd.t 14).ev tm = .int .i64 (t.pieces.length : Int) ∧ (Opd.t 15).ev tm = .int .i64 (a : Int))
    ?_ ?_ (i := 0) (Nat.zero_le _) ⟨_, _, rfl, H.Sub.refl hw, fun a' h0 => by omega, (by simp [ev_c, ev_put] <;> rfl), (by simp [ev_c, ev_put] <;> rfl), (by simp [ev_c, ev_put] <;> rfl), (by simp [ev_c, ev_put] <;> rfl)⟩
  · rintro a s ha ⟨tm, h', rfl, hs, hno, t0, t1, t14, t15⟩
    have ha' : (a : Int) < (t.pieces.length : Int) := by omega
    simp -implicitDefEqProofs (maxSteps := 999999) (disch := first | with_reducible rfl | omega | (simp only [nA, nS, nD] <;> omega) | fail) only [go_sem, t0, t1, t14, t15, ha', wr_succ]
    refine W_loop (fun kk s => ∃ tm h' b, s = ⟨tm, h', []⟩ ∧ kk = t.pieces.length - b ∧ a < b ∧ b ≤ t.pieces.length ∧ h.Sub h' ∧ (∀ b', b' < b → witF t e a b' = none) ∧ (Opd.t 0).ev tm = .ptr d 0 ∧ (Opd.t 1).ev tm = .int .i64 e ∧ (Opd.t 7).ev tm = .int .i64 (a : Int) ∧ (Opd.t 8).ev tm = .int .i64 (b : Int) ∧ (Opd.t 14).ev tm = .int .i64 (t.pieces.length : Int) ∧ (Opd.t 15).ev tm = .int .i64 (a : Int)) ?_ (t.pieces.length - (a + 1)) _
      ⟨_, _, a + 1, rfl, rfl, by omega, by omega, hs, fun b' hb' => by unfold witF; rw [if_neg (by omega)], (by simp [ev_c, ev_put, t0] <;> rfl), (by simp [ev_c, ev_put, t1] <;> rfl), (by simp [ev_c, ev_put] <;> rfl), (by simp [ev_c, ev_put] <;> rfl), (by simp [ev_c, ev_put, t14] <;> rfl), (by simp [ev_c, ev_put, t15] <;> rfl)⟩
    clear t0 t1 t14 t15 hs
    rintro kk s ⟨tm, h', b, rfl, hkk, hab, hbn, hs, hnb, t0, t1, t7, t8, t14, t15⟩
    have gd' := hs.cells (cells_of gd)
    by_cases hb : b < t.pieces.length
    · have hb' : (b : Int) < (t.pieces.length : Int) := by omega
      simp -implicitDefEqProofs (maxSteps := 999999) (disch := first | with_reducible rfl | omega | (simp only [nA, nS, nD] <;> omega) | fail) only [go_sem, t0, t1, t7, t8, t14, t15, gd', hlP, hb']
      refine dtellers_ev hs.wf (hd.mono hs) g ha hb _ fun y h2 oy => ?_
      have ll := tellP_len g a b
      have sB := (H.Sub.refl oy.1.wf).add (.cells .rw [.int .i64 e])
      have s2 := hs.trans (oy.1.trans sB)
      simp -implicitDefEqProofs (maxSteps := 999999) (disch := first | with_reducible rfl | omega | (simp only [nA, nS, nD] <;> omega) | fail) only [go_sem, t0, t1, t7, t8, t14, t15]
      refine (equalInt_ev (l := tellP t a b) (r := [e]) (((oy.sl (by simp only [List.length_map]; omega)).mono sB)) own1_lit).mono fun u h3 hu => ?_
      obtain ⟨rfl, rfl⟩ := hu
      by_cases he : tellP t a b = [e]
      · have hd1 : decide (tellP t a b = [e]) = true := decide_eq_true he
        have hw1 : witF t e a b = some (a, b) := by unfold witF; rw [if_pos ⟨hab, he⟩]
        have : wit t e = some (a, b) := some_first (some_first hw1 hnb _ hb) hno _ ha
        rw [this] at q
        rw [hd1]
        simp -implicitDefEqProofs (maxSteps := 999999) (disch := first | with_reducible rfl | omega | (simp only [nA, nS, nD] <;> omega) | fail) only [go_sem, t0, t1, t7, t8, t14, t15]
        exact q _ s2
      · have hd1 : decide (tellP t a b = [e]) = false := decide_eq_false he
        rw [hd1]
        simp -implicitDefEqProofs (maxSteps := 999999) (disch := first | with_reducible rfl | omega | (simp only [nA, nS, nD] <;> omega) | fail) only [go_sem, t0, t1, t7, t8, t14, t15, wr_succ]
        exact ⟨_, by omega, _, _, b + 1, rfl, rfl, by omega, by omega, s2, fun b' hb' => by
          by_cases e1 : b' = b
          · subst e1; unfold witF; rw [if_neg (fun h => he h.2)]
          · exact hnb b' (by omega), (by simp [ev_c, ev_put, t0] <;> rfl), (by simp [ev_c, ev_put, t1] <;> rfl), (by simp [ev_c, ev_put, t7] <;> rfl), (by simp [ev_c, ev_put] <;> rfl), (by simp [ev_c, ev_put, t14] <;> rfl), (by simp [ev_c, ev_put, t15] <;> rfl)⟩
    · have hb' : ¬ (b : Int) < (t.pieces.length : Int) := by omega
      simp -implicitDefEqProofs (maxSteps := 999999) (disch := first | with_reducible rfl | omega | (simp only [nA, nS, nD] <;> omega) | fail) only [go_sem, t0, t1, t7, t8, t14, t15, gd', hlP, hb', wr_succ]
      exact ⟨_, _, rfl, hs, fun a' h0 => by
        by_cases e1 : a' = a
        · subst e1; exact none_all fun b' hb' => hnb b' (by omega)
        · exact hno a' (by omega), (by simp [ev_c, ev_put, t0] <;> rfl), (by simp [ev_c, ev_put, t1] <;> rfl), (by simp [ev_c, ev_put, t14] <;> rfl), (by simp [ev_c, ev_put] <;> rfl)⟩
  · rintro s ⟨tm, h', rfl, hs, hno, t0, t1, t14, t15⟩
    have : wit t e = none := none_all hno
    rw [this] at q
    simp -implicitDefEqProofs (maxSteps := 999999) (disch := first | with_reducible rfl | omega | (simp only [nA, nS, nD] <;> omega) | fail) only [go_sem, t0, t1, t14, t15, Int.lt_irrefl]
    exact q _ hs
def witE (t : Tb) (e : Int) : Int := if check t ≠ 0 then check t else if isEy t e = false then 1 else if (wit t e).isSome = false then 6 else 0
def witA (t : Tb) (e : Int) : Nat × Nat := if witE t e = 0 then (wit t e).getD (0, 0) else (0, 0)
theorem Witness_ev {h : H} {v : V} {t : Tb} (hw : h.wf) (ht : TbIs h v t) (e : Int) (Q : V → H → Prop) (q : ∀ h', h.Sub h' → Q (.tup [.int .i64 ((witA t e).1 : Int), .int .i64 ((witA t e).2 : Int), .int .i64 (witE t e)]) h') : Ev fnG fastA (.fn 35 [] []) [v, .int .i64 e] h Q := by
  have ht0 := ht
  obtain ⟨E, L, P, rfl, aE, aL, aP⟩ := ht
  refine Ev_body (fd := c35) rfl rfl rfl ?_
  have s1 : h.Sub (h.add (.cells .rw [E, L, P])) := (by repeat (first | assumption | exact H.Sub.refl (by assumption) | refine H.Sub.add ?_ _ | refine H.Sub.set ?_ (by first | omega | (simp only [H.next_add, H.next_set, H.next_del] <;> omega)) (by first | omega | (simp only [H.next_add, H.next_set, H.next_del] <;> omega)) (by assumption) _))
  have g1 : (h.add (.cells .rw [E, L, P])).cells h.next = some [E, L, P] := cells_add_new rfl
  have bad : ∀ h', h.Sub h' → ∀ e1 : Int, e1 ≠ 0 → witE t e = e1 → Q (.tup [.int .i64 0, .int .i64 0, .int .i64 e1]) h' := fun h' s e1 he e2 => by
    have q' := q _ s
    have : witA t e = (0, 0) := by unfold witA; rw [e2, if_neg he]
    rw [this, e2] at q'; exact q'
  simp -implicitDefEqProofs (maxSteps := 999999) (disch := first | with_reducible rfl | omega | (simp only [nA, nS, nD] <;> omega) | fail) only [c35, go_sem]
  refine opened_use s1.wf (ht0.mono s1) _ (fun h5 s45 c => ?_) fun h5 d s15 c g hd => ?_
  · simp -implicitDefEqProofs (maxSteps := 999999) (disch := first | with_reducible rfl | omega | (simp only [nA, nS, nD] <;> omega) | fail) only [go_sem, ne_eq, c, not_false_eq_true]
    exact bad _ (s1.trans s45) _ c (by unfold witE; rw [if_pos c])
  have s5 := s1.trans s15
  simp -implicitDefEqProofs (maxSteps := 999999) (disch := first | with_reducible rfl | omega | (simp only [nA, nS, nD] <;> omega) | fail) only [go_sem, ne_eq, not_true_eq_false, s15.cells g1]
  refine eye_ev s15.wf (ht0.mono s5) e _ fun h6 s6 => ?_
  have s16 := s5.trans s6
  cases ce : isEy t e
  · simp -implicitDefEqProofs (maxSteps := 999999) (disch := first | with_reducible rfl | omega | (simp only [nA, nS, nD] <;> omega) | fail) only [go_sem, Bool.not_false]
    exact bad _ s16 1 (by decide) (by unfold witE; rw [if_neg (by simp [c]), if_pos ce])
  simp -implicitDefEqProofs (maxSteps := 999999) (disch := first | with_reducible rfl | omega | (simp only [nA, nS, nD] <;> omega) | fail) only [go_sem, Bool.not_true]
  refine witness_ev s6.wf (hd.mono s6) g e _ fun h7 s7 => ?_
  have s17 := s16.trans s7
  cases hw1 : wit t e with
  | none =>
    simp -implicitDefEqProofs (maxSteps := 999999) (disch := first | with_reducible rfl | omega | (simp only [nA, nS, nD] <;> omega) | fail) only [go_sem, witV, Bool.not_false]
    exact bad _ s17 6 (by decide) (by unfold witE; rw [if_neg (by simp [c]), if_neg (by simp [ce]), hw1, if_pos (by rfl)])
  | some p =>
    have e0 : witE t e = 0 := by unfold witE; rw [if_neg (by simp [c]), if_neg (by simp [ce]), hw1, if_neg (by simp)]
    have ea : witA t e = p := by unfold witA; rw [if_pos e0, hw1]; rfl
    simp -implicitDefEqProofs (maxSteps := 999999) (disch := first | with_reducible rfl | omega | (simp only [nA, nS, nD] <;> omega) | fail) only [go_sem, witV, Bool.not_true]
    have q' := q _ s17
    rw [e0, ea] at q'; exact q'
def needK (t : Tb) : Nat → List Int
  | 0 => []
  | n + 1 => needK t n ++ if (wit t (n : Int)).isSome = true then [(n : Int)] else []
theorem needK_len (t : Tb) : ∀ n, (needK t n).length ≤ n
  | 0 => Nat.le_refl _
  | n + 1 => by have := needK_len t n; simp only [needK, List.length_append]; split <;> simp <;> omega
theorem Needed_ev {h : H} {v : V} {t : Tb} (hw : h.wf) (ht : TbIs h v t) (Q : V → H → Prop) (q : ∀ y h', h.Sub h' → SlAt h' y 1 ((if check t = 0 then needK t t.eyes.length else []).map encI) → Q (.tup [y, .int .i64 (check t)]) h') : Ev fnG fastA (.fn 34 [] []) [v] h Q := by
  have ht0 := ht
  obtain ⟨E, L, P, rfl, aE, aL, aP⟩ := ht
  refine Ev_body (fd := c34) rfl rfl rfl ?_
  have s1 : h.Sub (h.add (.cells .rw [E, L, P])) := (by repeat (first | assumption | exact H.Sub.refl (by assumption) | refine H.Sub.add ?_ _ | refine H.Sub.set ?_ (by first | omega | (simp only [H.next_add, H.next_set, H.next_del] <;> omega)) (by first | omega | (simp only [H.next_add, H.next_set, H.next_del] <;> omega)) (by assumption) _))
  have g1 : (h.add (.cells .rw [E, L, P])).cells h.next = some [E, L, P] := cells_add_new rfl
  simp -implicitDefEqProofs (maxSteps := 999999) (disch := first | with_reducible rfl | omega | (simp only [nA, nS, nD] <;> omega) | fail) only [c34, go_sem]
  refine opened_use s1.wf (ht0.mono s1) _ (fun h5 s45 c => ?_) fun h5 d s15 c g hd => ?_
  · simp -implicitDefEqProofs (maxSteps := 999999) (disch := first | with_reducible rfl | omega | (simp only [nA, nS, nD] <;> omega) | fail) only [go_sem, ne_eq, c, not_false_eq_true]
    exact q _ _ (s1.trans s45) (by rw [if_neg c]; exact (OwnSl.nil s45 1).sl (by simp))
  have s5 := s1.trans s15
  have ge := g.eyes
  have hlE := aE.lenE
  rw [c, if_pos rfl] at q
  simp -implicitDefEqProofs (maxSteps := 999999) (disch := first | with_reducible rfl | omega | (simp only [nA, nS, nD] <;> omega) | fail) only [go_sem, ne_eq, not_true_eq_false, s15.cells g1, hlE]
  refine W_count t.eyes.length (fun i s => ∃ tm h' y, s = ⟨tm, h', []⟩ ∧ OwnSl h5 h' y 1 ((needK t i).map encI) ∧ (Opd.t 4).ev tm = .ptr d 0 ∧ (Opd.t 6).ev tm = y ∧ (Opd.t 21).ev tm = .int .i64 (t.eyes.length : Int) ∧ (Opd.t 22).ev tm = .int .i64 (i : Int))
    ?_ ?_ (i := 0) (Nat.zero_le _) ⟨_, _, .nils, rfl, OwnSl.nil (H.Sub.refl s15.wf) 1, (by simp [ev_c, ev_put] <;> rfl), (by simp [ev_c, ev_put] <;> rfl), (by simp [ev_c, ev_put] <;> rfl), (by simp [ev_c, ev_put] <;> rfl)⟩
  · rintro i s hi ⟨tm, h', y, rfl, oy, t4, t6, t21, t22⟩
    have hi' : (i : Int) < (t.eyes.length : Int) := by omega
    have hs := oy.1
    have hl := needK_len t i
    simp -implicitDefEqProofs (maxSteps := 999999) (disch := first | with_reducible rfl | omega | (simp only [nA, nS, nD] <;> omega) | fail) only [go_sem, t4, t6, t21, t22, hi']
    refine witness_ev hs.wf (hd.mono hs) g (i : Int) _ fun h6 s6 => ?_
    cases hw1 : wit t (i : Int) with
    | none =>
      have e1 : needK t (i + 1) = needK t i := by simp [needK, hw1]
      simp -implicitDefEqProofs (maxSteps := 999999) (disch := first | with_reducible rfl | omega | (simp only [nA, nS, nD] <;> omega) | fail) only [go_sem, t4, t6, t21, t22, witV, wr_succ]
      exact ⟨_, _, y, rfl, by rw [e1]; exact oy.mono s6, (by simp [ev_c, ev_put, t4] <;> rfl), (by simp [ev_c, ev_put, t6] <;> rfl), (by simp [ev_c, ev_put, t21] <;> rfl), (by simp [ev_c, ev_put] <;> rfl)⟩
    | some p =>
      have e1 : needK t (i + 1) = needK t i ++ [(i : Int)] := by simp [needK, hw1]
      have sC := (H.Sub.refl s6.wf).add (.cells .rw [.int .i64 (i : Int)])
      simp -implicitDefEqProofs (maxSteps := 999999) (disch := first | with_reducible rfl | omega | (simp only [nA, nS, nD] <;> omega) | fail) only [go_sem, t4, t6, t21, t22, witV]
      refine ((oy.mono s6).mono sC).app1 (by_ := 8) (r := encI (i : Int)) s15.wf rfl (by omega) own1_lit rfl (by simp only [List.length_map]; omega) (by simp only [List.length_map]; omega) fun h9 o9 k9 n9 => ?_
      rw [H.next_add, List.length_map] at o9
      simp -implicitDefEqProofs (maxSteps := 999999) (disch := first | with_reducible rfl | omega | (simp only [nA, nS, nD] <;> omega) | fail) only [go_sem, t4, t6, t21, t22, wr_succ]
      exact ⟨_, _, _, rfl, by rw [e1, List.map_append]; exact o9, (by simp [ev_c, ev_put, t4] <;> rfl), (by simp [ev_c, ev_put] <;> rfl), (by simp [ev_c, ev_put, t21] <;> rfl), (by simp [ev_c, ev_put] <;> rfl)⟩
  · rintro s ⟨tm, h', y, rfl, oy, t4, t6, t21, t22⟩
    have hl := needK_len t t.eyes.length
    simp -implicitDefEqProofs (maxSteps := 999999) (disch := first | with_reducible rfl | omega | (simp only [nA, nS, nD] <;> omega) | fail) only [go_sem, t4, t6, t21, t22, Int.lt_irrefl]
    exact q y _ (s5.trans oy.1) (oy.sl (by simp only [List.length_map]; omega))
end Go.Ab.Tryz
set_option linter.unusedSimpArgs false
set_option linter.unusedVariables false
namespace Go.Ab.Tryz
theorem mem_tellK {t : Tb} {a b : Sd} {x : Int} : ∀ {n : Nat}, x ∈ tellK t a b n ↔ ∃ j : Nat, j < n ∧ x = (j : Int) ∧ tellsE t j a b = true
  | 0 => by simp [tellK]
  | n + 1 => by
    simp only [tellK, List.mem_append, mem_tellK (n := n)]
    by_cases c : tellsE t n a b = true
    · rw [if_pos c, List.mem_singleton]
      constructor
      · rintro (⟨j, h1, h2, h3⟩ | rfl)
        · exact ⟨j, by omega, h2, h3⟩
        · exact ⟨n, by omega, rfl, c⟩
      · rintro ⟨j, h1, rfl, h3⟩
        by_cases e : j = n
        · exact .inr (by rw [e])
        · exact .inl ⟨j, by omega, rfl, h3⟩
    · rw [if_neg c]
      constructor
      · rintro (⟨j, h1, h2, h3⟩ | h)
        · exact ⟨j, by omega, h2, h3⟩
        · cases h
      · rintro ⟨j, h1, rfl, h3⟩
        by_cases e : j = n
        · subst e; exact absurd h3 c
        · exact .inl ⟨j, by omega, rfl, h3⟩
theorem tellK_comm (t : Tb) (a b : Sd) : ∀ n, tellK t a b n = tellK t b a n
  | 0 => rfl
  | n + 1 => by
    have e : tellsE t n a b = tellsE t n b a := by unfold tellsE; simp only [tellsAt_comm t a b]
    simp only [tellK, tellK_comm t a b n, e]
theorem tellP_at {t : Tb} {r p : Nat} (hr : r < t.pieces.length) (hp : p < t.pieces.length) : tellP t r p = tellK t t.pieces[r] t.pieces[p] t.eyes.length := by
  unfold tellP; rw [List.getElem?_eq_getElem hr, List.getElem?_eq_getElem hp]
end Go.Ab.Tryz
set_option linter.unusedSimpArgs false
set_option linter.unusedVariables false
namespace Go.Ab.Tryz
open Go.Ab.Silk (Inc bitsL lexlt before IsMin)
theorem dupInt_ev {h : H} {x : V} {l : List Int} (hw : h.wf) (hx : SlAt h x 1 (l.map encI)) (hl : l.length ≤ 1000000) (Q : V → H → Prop) :
    Ev fnG fastA (.fn 26 [] []) [x] h Q = Q (.sl h.next 0 l.length (.fix l.length)) (h.add (.cells .rw (l.map encI).flatten)) := by
  refine Ev.det (Ev_body (fd := c26) rfl rfl rfl ?_) Q
  simp -implicitDefEqProofs (maxSteps := 999999) (disch := first | with_reducible rfl | omega | (simp only [nA, nS, nD] <;> omega) | fail) only [c26, go_sem, hx.lenE, a_msl_0n]
  have := dup_core (by_ := 8) (z := [.int .i64 0]) hx hw rfl (by omega) (allOne_flat (fun a => rfl) l)
  rw [List.length_map] at this
  simp -implicitDefEqProofs (maxSteps := 999999) (disch := first | with_reducible rfl | omega | (simp only [nA, nS, nD] <;> omega) | fail) only [go_sem, this]
theorem sets_ev {h : H} {n : Nat} (hn : n ≤ 10) (Q : V → H → Prop) : Ev fnG fastA (.fn 70 [] []) [.int .i64 (n : Int)] h Q = Q (.int .i64 ((2 : Int) ^ n)) h := by
  refine Ev.det (Ev_body (fd := c70) rfl rfl rfl ?_) Q
  simp -implicitDefEqProofs (maxSteps := 999999) (disch := first | with_reducible rfl | omega | (simp only [nA, nS, nD] <;> omega) | fail) only [c70, go_sem]
  refine W_count n (fun i s => ∃ tm, s = ⟨tm, h, []⟩ ∧ (Opd.t 0).ev tm = .int .i64 (n : Int) ∧ (Opd.t 3).ev tm = .int .i64 ((2 : Int) ^ i) ∧ (Opd.t 4).ev tm = .int .i64 (i : Int))
    ?_ ?_ (i := 0) (Nat.zero_le _) ⟨_, rfl, (by simp [ev_c, ev_put] <;> rfl), (by simp [ev_c, ev_put] <;> rfl), (by simp [ev_c, ev_put] <;> rfl)⟩
  · rintro i s hi ⟨tm, rfl, t0, t3, t4⟩
    have hi' : (i : Int) < (n : Int) := by omega
    have hp := pow_le (i := i) (by omega)
    have hw2 : wr .i64 (2 * ((2 : Int) ^ i)) = (2 : Int) ^ (i + 1) := by
      have e1 : (2 : Int) ^ i = ((2 ^ i : Nat) : Int) := by simp
      have e2 : (2 : Int) ^ (i + 1) = ((2 ^ (i + 1) : Nat) : Int) := by simp
      rw [e1, e2, Nat.pow_succ]
      generalize 2 ^ i = p at hp ⊢
      rw [wr_in (by omega) (by omega)]; omega
    simp -implicitDefEqProofs (maxSteps := 999999) (disch := first | with_reducible rfl | omega | (simp only [nA, nS, nD] <;> omega) | fail) only [go_sem, t0, t3, t4, hi', hw2, wr_succ]
    exact ⟨_, rfl, (by simp [ev_c, ev_put, t0] <;> rfl), (by simp [ev_c, ev_put] <;> rfl), (by simp [ev_c, ev_put] <;> rfl)⟩
  · rintro s ⟨tm, rfl, t0, t3, t4⟩
    simp -implicitDefEqProofs (maxSteps := 999999) (disch := first | with_reducible rfl | omega | (simp only [nA, nS, nD] <;> omega) | fail) only [go_sem, t0, t3, t4, Int.lt_irrefl]
theorem pow_int_le {n : Nat} (h : n ≤ 10) : (2 : Int) ^ n ≤ 1024 := by
  have := pow_le h
  have e1 : (2 : Int) ^ n = ((2 ^ n : Nat) : Int) := by simp
  omega
set_option maxHeartbeats 1000000 in
theorem members_ev {h : H} {n : Nat} {s : Int} (hw : h.wf) (hn : n ≤ 10) (h0 : 0 ≤ s) (h1 : s < 2 ^ n) (Q : V → H → Prop) (q : ∀ y h', OwnC h h' y 1 ((bitsL n s 0).map encI) → Q y h') : Ev fnG fastA (.fn 71 [] []) [.int .i64 s] h Q := by
  have hb := pow_int_le hn
  refine Ev_body (fd := c71) rfl rfl rfl ?_
  simp -implicitDefEqProofs (maxSteps := 999999) (disch := first | with_reducible rfl | omega | (simp only [nA, nS, nD] <;> omega) | fail) only [c71, go_sem]
  refine W_loop (fun k st => ∃ tm h' y i, st = ⟨tm, h', []⟩ ∧ k = (sAt s i).toNat ∧ i ≤ n ∧ OwnC h h' y 1 ((lst (bitC s) i).map encI) ∧ (Opd.t 0).ev tm = .int .i64 (sAt s i) ∧ (Opd.t 3).ev tm = y ∧ (Opd.t 4).ev tm = .int .i64 (i : Int)) ?_ (sAt s 0).toNat _
    ⟨_, _, .nils, 0, rfl, rfl, Nat.zero_le _, ⟨H.Sub.refl hw, by simp [lst], .inl ⟨rfl, rfl⟩⟩, (by simp [ev_c, ev_put] <;> rfl), (by simp [ev_c, ev_put] <;> rfl), (by simp [ev_c, ev_put] <;> rfl)⟩
  rintro k st ⟨tm, h', y, i, rfl, rfl, hin, oy, t0, t3, t4⟩
  have n0 := sAt_nn h0 i
  have n1 := sAt_le h0 i
  by_cases hz : sAt s i = 0
  · have hnl : ¬ (0 : Int) < sAt s i := by omega
    simp -implicitDefEqProofs (maxSteps := 999999) (disch := first | with_reducible rfl | omega | (simp only [nA, nS, nD] <;> omega) | fail) only [go_sem, t0, t3, t4, hnl]
    refine q _ _ ?_
    rw [← lst_all h0 h1 hz]; exact oy
  · have hp : (0 : Int) < sAt s i := by omega
    have hin' : i < n := by
      have := sAt_zero n h0 h1
      refine Nat.lt_of_not_le fun hc => hz ?_
      exact (lst_stop this i hc).2
    have e1 : (sAt s i).tmod 2 = sAt s i % 2 := Int.tmod_eq_emod_of_nonneg n0
    have e2 : wr .i64 ((sAt s i).tdiv 2) = sAt s (i + 1) := by
      rw [Int.tdiv_eq_ediv_of_nonneg n0, wr_in (by omega) (by omega)]; rfl
    have hlt : (sAt s (i + 1)).toNat < (sAt s i).toNat := by simp only [sAt]; omega
    have hln := lst_len (bitC s) i
    have ei : (i : Int) + 1 = ((i + 1 : Nat) : Int) := by omega
    have wi : wr .i64 ((i : Int) + 1) = ((i + 1 : Nat) : Int) := by rw [wr_in (by omega) (by omega)]; omega
    cases hbt : bitC s i
    · have hc : ¬ sAt s i % 2 = 1 := by unfold bitC at hbt; simpa using hbt
      have e3 : lst (bitC s) (i + 1) = lst (bitC s) i := by simp [lst, hbt]
      simp -implicitDefEqProofs (maxSteps := 999999) (disch := first | with_reducible rfl | omega | (simp only [nA, nS, nD] <;> omega) | fail) only [go_sem, t0, t3, t4, hp, q_ar_rem .i64 (show (2 : Int) ≠ 0 by decide), q_ar_quo .i64 (show (2 : Int) ≠ 0 by decide), e1, e2, hc, wi]
      exact ⟨_, hlt, _, _, y, i + 1, rfl, rfl, hin', by rw [e3]; exact oy, (by simp [ev_c, ev_put] <;> rfl), (by simp [ev_c, ev_put, t3] <;> rfl), (by simp [ev_c, ev_put] <;> rfl)⟩
    · have hc : sAt s i % 2 = 1 := by unfold bitC at hbt; simpa using hbt
      have e3 : lst (bitC s) (i + 1) = lst (bitC s) i ++ [(i : Int)] := by simp [lst, hbt]
      have sA := (H.Sub.refl oy.1.wf).add (.cells .rw [.int .i64 (i : Int)])
      simp -implicitDefEqProofs (maxSteps := 999999) (disch := first | with_reducible rfl | omega | (simp only [nA, nS, nD] <;> omega) | fail) only [go_sem, t0, t3, t4, hp, q_ar_rem .i64 (show (2 : Int) ≠ 0 by decide), q_ar_quo .i64 (show (2 : Int) ≠ 0 by decide), e1, e2, hc, wi]
      refine (oy.mono sA).app1 (by_ := 8) (r := encI (i : Int)) hw rfl (by omega) own1_lit rfl (by simp only [List.length_map]; omega) (by simp only [List.length_map]; omega) fun y2 h2 oy2 dy2 ky2 => ?_
      simp -implicitDefEqProofs (maxSteps := 999999) (disch := first | with_reducible rfl | omega | (simp only [nA, nS, nD] <;> omega) | fail) only [go_sem, t0, t3, t4, q_ar_rem .i64 (show (2 : Int) ≠ 0 by decide), q_ar_quo .i64 (show (2 : Int) ≠ 0 by decide), e2, wi]
      exact ⟨_, hlt, _, _, y2, i + 1, rfl, rfl, hin', by rw [e3]; simpa using oy2, (by simp [ev_c, ev_put] <;> rfl), (by simp [ev_c, ev_put] <;> rfl), (by simp [ev_c, ev_put] <;> rfl)⟩
theorem lexlt_drop {a b : List Int} {i : Nat} (h1 : i < a.length) (h2 : i < b.length) : lexlt (a.drop i) (b.drop i) = if a[i] = b[i] then lexlt (a.drop (i + 1)) (b.drop (i + 1)) else decide (a[i] < b[i]) := by
  rw [List.drop_eq_getElem_cons h1, List.drop_eq_getElem_cons h2]; rfl
theorem first_ev {h : H} {x y : V} {a b : List Int} (hx : SlAt h x 1 (a.map encI)) (hy : SlAt h y 1 (b.map encI)) (e : a.length = b.length) (Q : V → H → Prop) : Ev fnG fastA (.fn 72 [] []) [x, y] h Q = Q (.bool (lexlt a b)) h := by
  have hlx := hx.lenE
  refine Ev.det (Ev_body (fd := c72) rfl rfl rfl ?_) Q
  simp -implicitDefEqProofs (maxSteps := 999999) (disch := first | with_reducible rfl | omega | (simp only [nA, nS, nD] <;> omega) | fail) only [c72, go_sem]
  refine W_count a.length (fun i s => ∃ tm, s = ⟨tm, h, []⟩ ∧ lexlt a b = lexlt (a.drop i) (b.drop i) ∧ (Opd.t 0).ev tm = x ∧ (Opd.t 1).ev tm = y ∧ (Opd.t 5).ev tm = .int .i64 (i : Int))
    ?_ ?_ (i := 0) (Nat.zero_le _) ⟨_, rfl, rfl, (by simp [ev_c, ev_put] <;> rfl), (by simp [ev_c, ev_put] <;> rfl), (by simp [ev_c, ev_put] <;> rfl)⟩
  · rintro i s hi ⟨tm, rfl, hd, t0, t1, t5⟩
    have hbx := hx.boundE
    have hi' : (i : Int) < (a.length : Int) := by omega
    have hib : i < b.length := by omega
    obtain ⟨b1, o1, c1, cs1, rfl, hc1, hq1, hg1, hn1, hn01⟩ := hx.at hi
    obtain ⟨b2, o2, c2, cs2, rfl, hc2, hq2, hg2, hn2, hn02⟩ := hy.at hib
    have hst := lexlt_drop hi hib
    by_cases he : a[i] = b[i]
    · rw [if_pos he] at hst
      simp -implicitDefEqProofs (maxSteps := 999999) (disch := first | with_reducible rfl | omega | (simp only [nA, nS, nD] <;> omega) | fail) only [go_sem, t0, t1, t5, hlx, hi', hq1 (nat_cst i), hc1, hn01 (by omega), hq2 (nat_cst i), hc2, hn02 (by omega), encI, he, ne_eq, not_true_eq_false, wr_succ]
      exact ⟨_, rfl, by rw [hd, hst], (by simp [ev_c, ev_put, t0] <;> rfl), (by simp [ev_c, ev_put, t1] <;> rfl), (by simp [ev_c, ev_put] <;> rfl)⟩
    · rw [if_neg he] at hst
      simp -implicitDefEqProofs (maxSteps := 999999) (disch := first | with_reducible rfl | omega | (simp only [nA, nS, nD] <;> omega) | fail) only [go_sem, t0, t1, t5, hlx, hi', hq1 (nat_cst i), hc1, hn01 (by omega), hq2 (nat_cst i), hc2, hn02 (by omega), encI, he, ne_eq, not_false_eq_true]
      rw [hd, hst]
  · rintro s ⟨tm, rfl, hd, t0, t1, t5⟩
    simp -implicitDefEqProofs (maxSteps := 999999) (disch := first | with_reducible rfl | omega | (simp only [nA, nS, nD] <;> omega) | fail) only [go_sem, t0, t1, t5, hlx, Int.lt_irrefl]
    rw [hd, List.drop_length, show b.drop a.length = [] by rw [e, List.drop_length]]
    rfl
def lstR (t : Tb) (l : List Int) : Int := if l.all (isEy t) = false then 1 else if decide (l.Pairwise (· < ·)) = false then 4 else 0
theorem lstR_le (t : Tb) (l : List Int) (c : check t = 0) : lstE t l = lstR t l := by unfold lstE lstR; rw [if_neg (by simp [c])]
def AdjTo (l : List Int) (i : Nat) : Prop := 1 ≤ i ∧ ∀ j (hj : j + 1 < l.length), j + 1 < i → l[j] < l[j + 1]
set_option maxHeartbeats 1000000 in
theorem refListed_ev {h : H} {v x : V} {t : Tb} {l : List Int} (hw : h.wf) (ht : TbIs h v t) (hx : SlAt h x 1 (l.map encI)) (hl : l.length ≤ 1000) (he : t.eyes.length ≤ 1000) (Q : V → H → Prop) (q : ∀ h', h.Sub h' → Q (.int .i64 (lstR t l)) h') : Ev fnG fastA (.fn 27 [] []) [v, x] h Q := by
  obtain ⟨E, L, P, rfl, aE, aL, aP⟩ := ht
  have hlE := aE.lenE
  have hlx := hx.lenE
  have s1 : h.Sub (h.add (.cells .rw [E, L, P])) := (by repeat (first | assumption | exact H.Sub.refl (by assumption) | refine H.Sub.add ?_ _ | refine H.Sub.set ?_ (by first | omega | (simp only [H.next_add, H.next_set, H.next_del] <;> omega)) (by first | omega | (simp only [H.next_add, H.next_set, H.next_del] <;> omega)) (by assumption) _))
  have g1 : (h.add (.cells .rw [E, L, P])).cells h.next = some [E, L, P] := cells_add_new rfl
  refine Ev_body (fd := c27) rfl rfl rfl ?_
  have hx1 := hx.mono s1
  simp -implicitDefEqProofs (maxSteps := 999999) (disch := first | with_reducible rfl | omega | (simp only [nA, nS, nD] <;> omega) | fail) only [c27, go_sem]
  generalize h.add (.cells .rw [E, L, P]) = h1 at s1 g1 hx1 ⊢
  have wm : wr .i64 ((t.eyes.length : Int) - 1) = (t.eyes.length : Int) - 1 := wr_in (by omega) (by omega)
  refine W.mono (Q := fun x1 s => (x1 = .ext 0 ∧ l.all (isEy t) = true ∧ ∃ tm, s = ⟨tm, h1, []⟩ ∧ (Opd.t 1).ev tm = x) ∨ (x1 = .ret ∧ l.all (isEy t) = false ∧ ∃ tm, s = ⟨tm, h1, []⟩ ∧ (Opd.t 4).ev tm = .int .i64 1))
   (W_count l.length (fun i s => ∃ tm, s = ⟨tm, h1, []⟩ ∧ (∀ j (hj : j < l.length), j < i → isEy t l[j] = true) ∧ (Opd.t 1).ev tm = x ∧ (Opd.t 2).ev tm = .ptr h.next 0 ∧ (Opd.t 5).ev tm = .int .i64 (i : Int))
    ?_ ?_ (i := 0) (Nat.zero_le _) ⟨_, rfl, fun j hj h0 => by omega, (by simp [ev_c, ev_put] <;> rfl), (by simp [ev_c, ev_put] <;> rfl), (by simp [ev_c, ev_put] <;> rfl)⟩) fun x1 s hx1' => ?_
  · rintro i s hi ⟨tm, rfl, hno, t1, t2, t5⟩
    have hi' : (i : Int) < (l.length : Int) := by omega
    obtain ⟨b, o, c, cs, ex, hc, hq, hg, hn, hn0⟩ := hx1.at hi
    have hv := hn0 (by omega)
    simp only [encI] at hv
    have eb : inB l[i] 0 ((t.eyes.length : Int) - 1) = isEy t l[i] := by
      unfold inB isEy; rw [Bool.eq_iff_iff]; simp only [decide_eq_true_eq]; omega
    cases hb : isEy t l[i]
    · simp -implicitDefEqProofs (maxSteps := 999999) (disch := first | with_reducible rfl | omega | (simp only [nA, nS, nD] <;> omega) | fail) only [go_sem, t1, t2, t5, hlx, hi', hq (nat_cst i), hc, hv, g1, hlE, wm, off_ev, eb, hb, Bool.not_false]
      have ha : l.all (isEy t) = false := by rw [List.all_eq_false]; exact ⟨_, List.getElem_mem hi, by rw [hb]; simp⟩
      first | exact .inr ⟨rfl, ha, _, rfl, (by simp [ev_c, ev_put] <;> rfl)⟩ | exact .inr ⟨ha, _, rfl, (by simp [ev_c, ev_put] <;> rfl)⟩ | exact ⟨ha, _, rfl, (by simp [ev_c, ev_put] <;> rfl)⟩
    · simp -implicitDefEqProofs (maxSteps := 999999) (disch := first | with_reducible rfl | omega | (simp only [nA, nS, nD] <;> omega) | fail) only [go_sem, t1, t2, t5, hlx, hi', hq (nat_cst i), hc, hv, g1, hlE, wm, off_ev, eb, hb, Bool.not_true, wr_succ]
      exact ⟨_, rfl, fun j hj h0 => by
        by_cases e : j = i
        · subst e; exact hb
        · exact hno j hj (by omega), (by simp [ev_c, ev_put, t1] <;> rfl), (by simp [ev_c, ev_put, t2] <;> rfl), (by simp [ev_c, ev_put] <;> rfl)⟩
  · rintro s ⟨tm, rfl, hno, t1, t2, t5⟩
    simp -implicitDefEqProofs (maxSteps := 999999) (disch := first | with_reducible rfl | omega | (simp only [nA, nS, nD] <;> omega) | fail) only [go_sem, t1, t2, t5, hlx, Int.lt_irrefl]
    have ha : l.all (isEy t) = true := by
      rw [List.all_eq_true]
      intro y hy
      obtain ⟨j, hj, rfl⟩ := List.getElem_of_mem hy
      exact hno j hj hj
    first | exact .inl ⟨rfl, ha, _, rfl, (by simp [ev_c, ev_put, t1] <;> rfl)⟩ | exact .inl ⟨ha, _, rfl, (by simp [ev_c, ev_put, t1] <;> rfl)⟩ | exact ⟨ha, _, rfl, (by simp [ev_c, ev_put, t1] <;> rfl)⟩
  rcases hx1' with ⟨rfl, ha, tm, rfl, t1⟩ | ⟨rfl, ha, tm, rfl, t4⟩
  · simp -implicitDefEqProofs (maxSteps := 999999) (disch := first | with_reducible rfl | omega | (simp only [nA, nS, nD] <;> omega) | fail) only [go_sem, t1]
    refine W_count (max l.length 1) (fun i s => ∃ tm, s = ⟨tm, h1, []⟩ ∧ AdjTo l i ∧ (Opd.t 1).ev tm = x ∧ (Opd.t 6).ev tm = .int .i64 (i : Int))
      ?_ ?_ (i := 1) (by omega) ⟨_, rfl, ⟨Nat.le_refl _, fun j hj h0 => by omega⟩, (by simp [ev_c, ev_put, t1] <;> rfl), (by simp [ev_c, ev_put] <;> rfl)⟩
    · clear t1
      rintro i s hi ⟨tm, rfl, ⟨h1i, hno⟩, t1, t6⟩
      obtain ⟨i, rfl⟩ : ∃ k, i = k + 1 := ⟨i - 1, by omega⟩
      have hil : i + 1 < l.length := by omega
      have hi' : ((i + 1 : Nat) : Int) < (l.length : Int) := by omega
      obtain ⟨b, o, c, cs, ex, hc, hq, hg, hn, hn0⟩ := hx1.at hil
      obtain ⟨b', o', c', cs', ex', hc', hq', hg', hn', hn0'⟩ := hx1.at (show i < l.length by omega)
      have hv := hn0 (by omega)
      have hv' := hn0' (by omega)
      simp only [encI] at hv hv'
      have w1 : wr .i64 (((i + 1 : Nat) : Int) - 1) = (i : Int) := by rw [wr_in (by omega) (by omega)]; omega
      by_cases hle : l[i + 1] ≤ l[i]
      · have hp : decide (l.Pairwise (· < ·)) = false := decide_eq_false fun hp => by
          have := List.pairwise_iff_getElem.1 hp i (i + 1) (by omega) hil (by omega); omega
        have e : lstR t l = 4 := by unfold lstR; rw [if_neg (by simp [ha]), if_pos hp]
        rw [e] at q
        simp -implicitDefEqProofs (maxSteps := 999999) (disch := first | with_reducible rfl | omega | (simp only [nA, nS, nD] <;> omega) | fail) only [go_sem, t1, t6, hlx, hi', hq (nat_cst (i + 1)), hc, hv, w1, hq' (nat_cst i), hc', hv', hle]
        exact q _ s1
      · simp -implicitDefEqProofs (maxSteps := 999999) (disch := first | with_reducible rfl | omega | (simp only [nA, nS, nD] <;> omega) | fail) only [go_sem, t1, t6, hlx, hi', hq (nat_cst (i + 1)), hc, hv, w1, hq' (nat_cst i), hc', hv', hle, wr_succ]
        exact ⟨_, rfl, ⟨by omega, fun j hj h0 => by
          by_cases e : j = i
          · subst e; omega
          · exact hno j hj (by omega)⟩, (by simp [ev_c, ev_put, t1] <;> rfl), (by simp [ev_c, ev_put] <;> rfl)⟩
    · clear t1
      rintro s ⟨tm, rfl, ⟨h1i, hno⟩, t1, t6⟩
      have hnl : ¬ ((max l.length 1 : Nat) : Int) < (l.length : Int) := by omega
      have hp : decide (l.Pairwise (· < ·)) = true := decide_eq_true (adj_pw (fun a b c h1 h2 => by omega) fun j hj => hno j hj (by omega))
      have e : lstR t l = 0 := by unfold lstR; rw [if_neg (by simp [ha]), if_neg (by simp [hp])]
      rw [e] at q
      simp -implicitDefEqProofs (maxSteps := 999999) (disch := first | with_reducible rfl | omega | (simp only [nA, nS, nD] <;> omega) | fail) only [go_sem, t1, t6, hlx, hnl]
      exact q _ s1
  · have e : lstR t l = 1 := by unfold lstR; rw [if_pos ha]
    rw [e] at q
    simp -implicitDefEqProofs (maxSteps := 999999) (disch := first | with_reducible rfl | omega | (simp only [nA, nS, nD] <;> omega) | fail) only [go_sem, t4]
    exact q _ s1
end Go.Ab.Tryz
set_option linter.unusedSimpArgs false
set_option linter.unusedVariables false
namespace Go.Ab.Tryz
open Go.Ab.Silk (Inc bitsL lexlt before IsMin BestUpto firstOf)
def tellAny (t : Tb) (a b : Sd) (n : Nat) : Bool := (List.range n).any fun k => tellsE t k a b
def tellSome (t : Tb) (l : List Int) (a b : Sd) (n : Nat) : Bool := (List.range n).any fun k => tellsE t k a b && l.any fun r => decide (r = (k : Int))
theorem okPair_AS {t : Tb} {l : List Int} {r p : Nat} (hr : r < t.pieces.length) (hp : p < t.pieces.length) : okPair t l r p = !(tellAny t t.pieces[p] t.pieces[r] t.eyes.length && !tellSome t l t.pieces[p] t.pieces[r] t.eyes.length) := by
  unfold okPair
  rw [tellP_at hr hp, tellK_comm]
  cases hA : tellAny t t.pieces[p] t.pieces[r] t.eyes.length
  · have : tellK t t.pieces[p] t.pieces[r] t.eyes.length = [] := tellK_nil.2 fun i hi => by
      unfold tellAny at hA
      rw [List.any_eq_false] at hA
      simpa using hA i (List.mem_range.2 hi)
    rw [this]; rfl
  · have hne : ¬ (tellK t t.pieces[p] t.pieces[r] t.eyes.length).length = 0 := fun h => by
      have h := tellK_nil.1 (List.length_eq_zero_iff.1 h)
      unfold tellAny at hA
      obtain ⟨k, hk, e⟩ := List.any_eq_true.1 hA
      rw [h k (List.mem_range.1 hk)] at e; cases e
    rw [decide_eq_false hne, Bool.false_or, Bool.true_and, Bool.not_not, Bool.eq_iff_iff]
    unfold tellSome
    rw [List.any_eq_true, List.any_eq_true]
    constructor
    · rintro ⟨x, hx, h⟩
      obtain ⟨j, hj, rfl, e⟩ := mem_tellK.1 hx
      refine ⟨j, List.mem_range.2 hj, ?_⟩
      rw [e, Bool.true_and]
      obtain ⟨z, hz, ez⟩ := List.any_eq_true.1 h
      exact List.any_eq_true.2 ⟨z, hz, by simpa using (of_decide_eq_true ez).symm⟩
    · rintro ⟨j, hj, h⟩
      rw [Bool.and_eq_true] at h
      obtain ⟨z, hz, ez⟩ := List.any_eq_true.1 h.2
      exact ⟨(j : Int), mem_tellK.2 ⟨j, List.mem_range.1 hj, rfl, h.1⟩, List.any_eq_true.2 ⟨z, hz, by simpa using (of_decide_eq_true ez).symm⟩⟩
set_option maxHeartbeats 2000000 in
theorem refEnough_ev {h : H} {v x : V} {t : Tb} {l : List Int} (hw : h.wf) (ht : TbIs h v t) (g : Good t) (hx : SlAt h x 1 (l.map encI)) (Q : V → H → Prop) (q : ∀ h', h.Sub h' → Q (.bool (enoughB t l)) h') : Ev fnG fastA (.fn 28 [] []) [v, x] h Q := by
  have ht0 := ht
  obtain ⟨E, L, P, rfl, aE, aL, aP⟩ := ht
  have hlE := aE.lenE
  have hlP := aP.lenE
  have gE := g.eyes
  have gp := g.pieces
  have s1 : h.Sub (h.add (.cells .rw [E, L, P])) := (by repeat (first | assumption | exact H.Sub.refl (by assumption) | refine H.Sub.add ?_ _ | refine H.Sub.set ?_ (by first | omega | (simp only [H.next_add, H.next_set, H.next_del] <;> omega)) (by first | omega | (simp only [H.next_add, H.next_set, H.next_del] <;> omega)) (by assumption) _))
  have g1 : (h.add (.cells .rw [E, L, P])).cells h.next = some [E, L, P] := cells_add_new rfl
  refine Ev_body (fd := c28) rfl rfl rfl ?_
  simp -implicitDefEqProofs (maxSteps := 999999) (disch := first | with_reducible rfl | omega | (simp only [nA, nS, nD] <;> omega) | fail) only [c28, go_sem]
  generalize h.add (.cells .rw [E, L, P]) = h1 at s1 g1 ⊢
  refine W_count t.pieces.length (fun a s => ∃ tm h', s = ⟨tm, h', []⟩ ∧ h1.Sub h' ∧ (∀ p, p < a → ∀ r, r < p → okPair t l r p = true) ∧ (Opd.t 1).ev tm = x ∧ (Opd.t 2).ev tm = .ptr h.next 0 ∧ (Opd.t 5).ev tm = .int .i64 (a : Int))
    ?_ ?_ (i := 0) (Nat.zero_le _) ⟨_, _, rfl, H.Sub.refl s1.wf, fun p hp => by omega, (by simp [ev_c, ev_put] <;> rfl), (by simp [ev_c, ev_put] <;> rfl), (by simp [ev_c, ev_put] <;> rfl)⟩
  · rintro a s ha ⟨tm, h', rfl, hs, hok, t1, t2, t5⟩
    have ha' : (a : Int) < (t.pieces.length : Int) := by omega
    simp -implicitDefEqProofs (maxSteps := 999999) (disch := first | with_reducible rfl | omega | (simp only [nA, nS, nD] <;> omega) | fail) only [go_sem, t1, t2, t5, hs.cells g1, hlP, ha']
    refine W_count a (fun b s => ∃ tm h', s = ⟨tm, h', []⟩ ∧ h1.Sub h' ∧ (∀ r, r < b → okPair t l r a = true) ∧ (Opd.t 1).ev tm = x ∧ (Opd.t 2).ev tm = .ptr h.next 0 ∧ (Opd.t 5).ev tm = .int .i64 (a : Int) ∧ (Opd.t 6).ev tm = .int .i64 (b : Int))
      ?_ ?_ (i := 0) (Nat.zero_le _) ⟨_, _, rfl, hs, fun r hr => by omega, (by simp [ev_c, ev_put, t1] <;> rfl), (by simp [ev_c, ev_put, t2] <;> rfl), (by simp [ev_c, ev_put, t5] <;> rfl), (by simp [ev_c, ev_put] <;> rfl)⟩
    · clear t1 t2 t5 hs
      rintro b s hb ⟨tm, h', rfl, hs, hok2, t1, t2, t5, t6⟩
      have hb' : (b : Int) < (a : Int) := by omega
      have hbp : b < t.pieces.length := by omega
      have ia := g.piece _ (List.getElem_mem ha)
      have ib := g.piece _ (List.getElem_mem hbp)
      simp -implicitDefEqProofs (maxSteps := 999999) (disch := first | with_reducible rfl | omega | (simp only [nA, nS, nD] <;> omega) | fail) only [go_sem, t1, t2, t5, t6, hb']
      refine W.mono (Q := fun x1 s => x1 = .ext 4 ∧ ∃ tm h', s = ⟨tm, h', []⟩ ∧ h1.Sub h' ∧ (Opd.t 1).ev tm = x ∧ (Opd.t 2).ev tm = .ptr h.next 0 ∧ (Opd.t 5).ev tm = .int .i64 (a : Int) ∧ (Opd.t 6).ev tm = .int .i64 (b : Int) ∧ (Opd.t 7).ev tm = .bool (tellSome t l t.pieces[a] t.pieces[b] t.eyes.length) ∧ (Opd.t 8).ev tm = .bool (tellAny t t.pieces[a] t.pieces[b] t.eyes.length))
       (W_count t.eyes.length (fun i s => ∃ tm h', s = ⟨tm, h', []⟩ ∧ h1.Sub h' ∧ (Opd.t 1).ev tm = x ∧ (Opd.t 2).ev tm = .ptr h.next 0 ∧ (Opd.t 5).ev tm = .int .i64 (a : Int) ∧ (Opd.t 6).ev tm = .int .i64 (b : Int) ∧ (Opd.t 7).ev tm = .bool (tellSome t l t.pieces[a] t.pieces[b] i) ∧ (Opd.t 8).ev tm = .bool (tellAny t t.pieces[a] t.pieces[b] i) ∧ (Opd.t 9).ev tm = .int .i64 (i : Int))
        ?_ ?_ (i := 0) (Nat.zero_le _) ⟨_, _, rfl, hs, (by simp [ev_c, ev_put, t1] <;> rfl), (by simp [ev_c, ev_put, t2] <;> rfl), (by simp [ev_c, ev_put, t5] <;> rfl), (by simp [ev_c, ev_put, t6] <;> rfl), (by simp [ev_c, ev_put] <;> rfl), (by simp [ev_c, ev_put] <;> rfl), (by simp [ev_c, ev_put] <;> rfl)⟩) fun x1 s hx1 => ?_
      · clear t1 t2 t5 t6 hs
        rintro i s hi ⟨tm, h', rfl, hs, t1, t2, t5, t6, t7, t8, t9⟩
        have hi' : (i : Int) < (t.eyes.length : Int) := by omega
        obtain ⟨bA, oA, cA, csA, eA, hcA, hqA, hgA, _, _⟩ := (aP.mono (s1.trans hs)).at ha
        obtain ⟨bB, oB, cB, csB, eB, hcB, hqB, hgB, _, _⟩ := (aP.mono (s1.trans hs)).at hbp
        simp only [encD] at hgA hgB
        have htl := refTells_ev (h := h') hs.wf (ht0.mono (s1.trans hs)) g hi ia ib
        simp only [encD] at htl
        simp -implicitDefEqProofs (maxSteps := 999999) (disch := first | with_reducible rfl | omega | (simp only [nA, nS, nD] <;> omega) | fail) only [go_sem, t1, t2, t5, t6, t7, t8, t9, hs.cells g1, hlE, hi', hqA (nat_cst a), hcA, hgA, hqB (nat_cst b), hcB, hgB]
        refine htl _ fun h2 s2 => ?_
        have hs2 := hs.trans s2
        have stA : tellAny t t.pieces[a] t.pieces[b] (i + 1) = (tellAny t t.pieces[a] t.pieces[b] i || tellsE t i t.pieces[a] t.pieces[b]) := any_range_step i
        have stS : tellSome t l t.pieces[a] t.pieces[b] (i + 1) = (tellSome t l t.pieces[a] t.pieces[b] i || (tellsE t i t.pieces[a] t.pieces[b] && l.any fun r => decide (r = (i : Int)))) := any_range_step i
        cases hT : tellsE t i t.pieces[a] t.pieces[b]
        · rw [hT, Bool.or_false] at stA
          rw [hT, Bool.false_and, Bool.or_false] at stS
          simp -implicitDefEqProofs (maxSteps := 999999) (disch := first | with_reducible rfl | omega | (simp only [nA, nS, nD] <;> omega) | fail) only [go_sem, t1, t2, t5, t6, t7, t8, t9, hs.cells g1, hqA (nat_cst a), hcA, hgA, hqB (nat_cst b), hcB, hgB, wr_succ]
          exact ⟨_, _, rfl, hs2, (by simp [ev_c, ev_put, t1] <;> rfl), (by simp [ev_c, ev_put, t2] <;> rfl), (by simp [ev_c, ev_put, t5] <;> rfl), (by simp [ev_c, ev_put, t6] <;> rfl), by rw [stS]; exact (by simp [ev_c, ev_put, t7] <;> rfl), by rw [stA]; exact (by simp [ev_c, ev_put, t8] <;> rfl), (by simp [ev_c, ev_put] <;> rfl)⟩
        · rw [hT, Bool.or_true] at stA
          rw [hT, Bool.true_and] at stS
          cases hS : tellSome t l t.pieces[a] t.pieces[b] i
          · rw [hS, Bool.false_or] at stS
            rw [hS] at t7
            simp -implicitDefEqProofs (maxSteps := 999999) (disch := first | with_reducible rfl | omega | (simp only [nA, nS, nD] <;> omega) | fail) only [go_sem, t1, t2, t5, t6, t7, t8, t9, hs.cells g1, hqA (nat_cst a), hcA, hgA, hqB (nat_cst b), hcB, hgB]
            refine hasR_ev hs2.wf (hx.mono (s1.trans hs2)) (i : Int) _ fun h3 s3 => ?_
            simp -implicitDefEqProofs (maxSteps := 999999) (disch := first | with_reducible rfl | omega | (simp only [nA, nS, nD] <;> omega) | fail) only [go_sem, t1, t2, t5, t6, t7, t8, t9, wr_succ]
            exact ⟨_, _, rfl, hs2.trans s3, (by simp [ev_c, ev_put, t1] <;> rfl), (by simp [ev_c, ev_put, t2] <;> rfl), (by simp [ev_c, ev_put, t5] <;> rfl), (by simp [ev_c, ev_put, t6] <;> rfl), by rw [stS]; exact (by simp [ev_c, ev_put] <;> rfl), by rw [stA]; exact (by simp [ev_c, ev_put] <;> rfl), (by simp [ev_c, ev_put] <;> rfl)⟩
          · rw [hS, Bool.true_or] at stS
            rw [hS] at t7
            simp -implicitDefEqProofs (maxSteps := 999999) (disch := first | with_reducible rfl | omega | (simp only [nA, nS, nD] <;> omega) | fail) only [go_sem, t1, t2, t5, t6, t7, t8, t9, hs.cells g1, hqA (nat_cst a), hcA, hgA, hqB (nat_cst b), hcB, hgB, wr_succ]
            exact ⟨_, _, rfl, hs2, (by simp [ev_c, ev_put, t1] <;> rfl), (by simp [ev_c, ev_put, t2] <;> rfl), (by simp [ev_c, ev_put, t5] <;> rfl), (by simp [ev_c, ev_put, t6] <;> rfl), by rw [stS]; exact (by simp [ev_c, ev_put] <;> rfl), by rw [stA]; exact (by simp [ev_c, ev_put] <;> rfl), (by simp [ev_c, ev_put] <;> rfl)⟩
      · clear t1 t2 t5 t6 hs
        rintro s ⟨tm, h', rfl, hs, t1, t2, t5, t6, t7, t8, t9⟩
        simp -implicitDefEqProofs (maxSteps := 999999) (disch := first | with_reducible rfl | omega | (simp only [nA, nS, nD] <;> omega) | fail) only [go_sem, t1, t2, t5, t6, t7, t8, t9, hs.cells g1, hlE, Int.lt_irrefl]
        exact ⟨_, _, rfl, hs, (by simp [ev_c, ev_put, t1] <;> rfl), (by simp [ev_c, ev_put, t2] <;> rfl), (by simp [ev_c, ev_put, t5] <;> rfl), (by simp [ev_c, ev_put, t6] <;> rfl), (by simp [ev_c, ev_put, t7] <;> rfl), (by simp [ev_c, ev_put, t8] <;> rfl)⟩
      clear t1 t2 t5 t6 hs
      obtain ⟨rfl, tm, h', rfl, hs, t1, t2, t5, t6, t7, t8⟩ := hx1
      have hAS := okPair_AS (l := l) hbp ha
      cases hA : tellAny t t.pieces[a] t.pieces[b] t.eyes.length
      · rw [hA, Bool.false_and, Bool.not_false] at hAS
        rw [hA] at t8
        simp -implicitDefEqProofs (maxSteps := 999999) (disch := first | with_reducible rfl | omega | (simp only [nA, nS, nD] <;> omega) | fail) only [go_sem, t1, t2, t5, t6, t7, t8, wr_succ]
        exact ⟨_, _, rfl, hs, fun r hr => by
          by_cases e : r = b
          · subst e; exact hAS
          · exact hok2 r (by omega), (by simp [ev_c, ev_put, t1] <;> rfl), (by simp [ev_c, ev_put, t2] <;> rfl), (by simp [ev_c, ev_put, t5] <;> rfl), (by simp [ev_c, ev_put] <;> rfl)⟩
      · rw [hA, Bool.true_and, Bool.not_not] at hAS
        rw [hA] at t8
        cases hS : tellSome t l t.pieces[a] t.pieces[b] t.eyes.length
        · rw [hS] at hAS t7
          have e : enoughB t l = false := by
            unfold enoughB
            rw [List.all_eq_false]
            refine ⟨a, List.mem_range.2 ha, ?_⟩
            rw [Bool.not_eq_true, List.all_eq_false]
            exact ⟨b, List.mem_range.2 hb, by rw [hAS]; simp⟩
          rw [e] at q
          simp -implicitDefEqProofs (maxSteps := 999999) (disch := first | with_reducible rfl | omega | (simp only [nA, nS, nD] <;> omega) | fail) only [go_sem, t1, t2, t5, t6, t7, t8]
          exact q _ (s1.trans hs)
        · rw [hS] at hAS t7
          simp -implicitDefEqProofs (maxSteps := 999999) (disch := first | with_reducible rfl | omega | (simp only [nA, nS, nD] <;> omega) | fail) only [go_sem, t1, t2, t5, t6, t7, t8, wr_succ]
          exact ⟨_, _, rfl, hs, fun r hr => by
            by_cases e : r = b
            · subst e; exact hAS
            · exact hok2 r (by omega), (by simp [ev_c, ev_put, t1] <;> rfl), (by simp [ev_c, ev_put, t2] <;> rfl), (by simp [ev_c, ev_put, t5] <;> rfl), (by simp [ev_c, ev_put] <;> rfl)⟩
    · clear t1 t2 t5 hs
      rintro s ⟨tm, h', rfl, hs, hok2, t1, t2, t5, t6⟩
      simp -implicitDefEqProofs (maxSteps := 999999) (disch := first | with_reducible rfl | omega | (simp only [nA, nS, nD] <;> omega) | fail) only [go_sem, t1, t2, t5, t6, Int.lt_irrefl, wr_succ]
      exact ⟨_, _, rfl, hs, fun p hp r hr => by
        by_cases e : p = a
        · subst e; exact hok2 r hr
        · exact hok p (by omega) r hr, (by simp [ev_c, ev_put, t1] <;> rfl), (by simp [ev_c, ev_put, t2] <;> rfl), (by simp [ev_c, ev_put] <;> rfl)⟩
  · rintro s ⟨tm, h', rfl, hs, hok, t1, t2, t5⟩
    have e : enoughB t l = true := by
      unfold enoughB
      rw [List.all_eq_true]
      intro p hp
      rw [List.all_eq_true]
      intro r hr
      exact hok p (List.mem_range.1 hp) r (List.mem_range.1 hr)
    rw [e] at q
    simp -implicitDefEqProofs (maxSteps := 999999) (disch := first | with_reducible rfl | omega | (simp only [nA, nS, nD] <;> omega) | fail) only [go_sem, t1, t2, t5, hs.cells g1, hlP, Int.lt_irrefl]
    exact q _ (s1.trans hs)
end Go.Ab.Tryz
set_option linter.unusedSimpArgs false
set_option linter.unusedVariables false
namespace Go.Ab.Tryz
open Go.Ab.Silk (Inc bitsL lexlt before IsMin BestUpto firstOf)
def FoundAt (h : H) (y : V) (f : Bool) (b : Option (List Int)) : Prop := match b with
  | none => y = .nils ∧ f = false
  | some c => SlAt h y 1 (c.map encI) ∧ f = true ∧ c.length ≤ 10
theorem FoundAt.mono {h h' : H} {y : V} {f : Bool} {b : Option (List Int)} (a : FoundAt h y f b) (s : h.Sub h') : FoundAt h' y f b := by
  cases b with
  | none => exact a
  | some c => exact ⟨a.1.mono s, a.2⟩
set_option maxHeartbeats 2000000 in
theorem refFewest_ev {h : H} {v : V} {t : Tb} (hw : h.wf) (ht : TbIs h v t) (g : Good t) (Q : V → H → Prop) (q : ∀ y h' c, h.Sub h' → few t = some c → SlAt h' y 1 (c.map encI) → Q y h') : Ev fnG fastA (.fn 29 [] []) [v] h Q := by
  have ht0 := ht
  obtain ⟨E, L, P, rfl, aE, aL, aP⟩ := ht
  have hlE := aE.lenE
  have gE := g.eyes
  have s1 : h.Sub (h.add (.cells .rw [E, L, P])) := (by repeat (first | assumption | exact H.Sub.refl (by assumption) | refine H.Sub.add ?_ _ | refine H.Sub.set ?_ (by first | omega | (simp only [H.next_add, H.next_set, H.next_del] <;> omega)) (by first | omega | (simp only [H.next_add, H.next_set, H.next_del] <;> omega)) (by assumption) _))
  have g1 : (h.add (.cells .rw [E, L, P])).cells h.next = some [E, L, P] := cells_add_new rfl
  refine Ev_body (fd := c29) rfl rfl rfl ?_
  simp -implicitDefEqProofs (maxSteps := 999999) (disch := first | with_reducible rfl | omega | (simp only [nA, nS, nD] <;> omega) | fail) only [c29, go_sem]
  generalize h.add (.cells .rw [E, L, P]) = h1 at s1 g1 ⊢
  have h2p : (2 : Int) ^ t.eyes.length = ((2 ^ t.eyes.length : Nat) : Int) := by simp
  have hset := fun (hh : H) (R : V → H → Prop) => sets_ev (h := hh) (n := t.eyes.length) (by omega) R
  have hp := pow_le (i := t.eyes.length) (by omega)
  refine W_count (2 ^ t.eyes.length) (fun i s => ∃ tm h' y f best, s = ⟨tm, h', []⟩ ∧ h1.Sub h' ∧ BestUpto (enoughB t) t.eyes.length 0 (i : Int) best ∧ FoundAt h' y f best ∧ (Opd.t 1).ev tm = .ptr h.next 0 ∧ (Opd.t 3).ev tm = y ∧ (Opd.t 4).ev tm = .bool f ∧ (Opd.t 5).ev tm = .int .i64 (i : Int))
    ?_ ?_ (i := 0) (Nat.zero_le _) ⟨_, _, .nils, false, none, rfl, H.Sub.refl s1.wf, BestUpto.zero _ _ _, ⟨rfl, rfl⟩, (by simp [ev_c, ev_put] <;> rfl), (by simp [ev_c, ev_put] <;> rfl), (by simp [ev_c, ev_put] <;> rfl), (by simp [ev_c, ev_put] <;> rfl)⟩
  · rintro i s hi ⟨tm, h', y, f, best, rfl, hs, hb, fy, t1, t3, t4, t5⟩
    have hi' : (i : Int) < ((2 ^ t.eyes.length : Nat) : Int) := by omega
    have es : ((i + 1 : Nat) : Int) = (i : Int) + 1 := by omega
    simp -implicitDefEqProofs (maxSteps := 999999) (disch := first | with_reducible rfl | omega | (simp only [nA, nS, nD] <;> omega) | fail) only [go_sem, t1, t3, t4, t5, hs.cells g1, hlE, hset, h2p, hi']
    refine members_ev (n := t.eyes.length) hs.wf (by omega) (by omega) (by rw [h2p]; exact hi') _ fun z h2 oz => ?_
    have hlz : (bitsL t.eyes.length (i : Int) 0).length ≤ 6 := by have := (bits_inc0 t.eyes.length (i : Int)).len (by omega); omega
    have az := oz.sl (by simp only [List.length_map]; omega)
    have lz := az.lenE
    have hs2 := hs.trans oz.1
    have en := fun R => refEnough_ev (h := h2) hs2.wf (ht0.mono (s1.trans hs2)) g az R
    have fy2 := fy.mono oz.1
    cases best with
    | none =>
      obtain ⟨rfl, rfl⟩ := fy
      simp -implicitDefEqProofs (maxSteps := 999999) (disch := first | with_reducible rfl | omega | (simp only [nA, nS, nD] <;> omega) | fail) only [go_sem, t1, t3, t4, t5, hs2.cells g1]
      refine en _ fun h3 s3 => ?_
      cases hP : enoughB t (bitsL t.eyes.length (i : Int) 0)
      · simp -implicitDefEqProofs (maxSteps := 999999) (disch := first | with_reducible rfl | omega | (simp only [nA, nS, nD] <;> omega) | fail) only [go_sem, t1, t3, t4, t5, wr_succ]
        exact ⟨_, _, _, _, none, rfl, hs2.trans s3, by rw [es]; exact hb.skip (.inl hP), ⟨rfl, rfl⟩, (by simp [ev_c, ev_put, t1] <;> rfl), (by simp [ev_c, ev_put, t3] <;> rfl), (by simp [ev_c, ev_put, t4] <;> rfl), (by simp [ev_c, ev_put] <;> rfl)⟩
      · simp -implicitDefEqProofs (maxSteps := 999999) (disch := first | with_reducible rfl | omega | (simp only [nA, nS, nD] <;> omega) | fail) only [go_sem, t1, t3, t4, t5, wr_succ]
        exact ⟨_, _, _, _, some _, rfl, hs2.trans s3, by rw [es]; exact hb.take hP (fun c e => by cases e), ⟨az.mono s3, rfl, by omega⟩, (by simp [ev_c, ev_put, t1] <;> rfl), (by simp [ev_c, ev_put] <;> rfl), (by simp [ev_c, ev_put] <;> rfl), (by simp [ev_c, ev_put] <;> rfl)⟩
    | some c =>
      obtain ⟨ac, rfl, hc⟩ := fy
      have ac2 := ac.mono oz.1
      have lc := ac2.lenE
      by_cases c1 : (bitsL t.eyes.length (i : Int) 0).length < c.length
      · have hbf : Silk.before (bitsL t.eyes.length (i : Int) 0) c = true := by unfold Silk.before; rw [if_neg (by omega)]; simpa using c1
        have c1' : ((bitsL t.eyes.length (i : Int) 0).length : Int) < (c.length : Int) := by omega
        simp -implicitDefEqProofs (maxSteps := 999999) (disch := first | with_reducible rfl | omega | (simp only [nA, nS, nD] <;> omega) | fail) only [go_sem, t1, t3, t4, t5, hs2.cells g1, lz, lc, c1']
        refine en _ fun h3 s3 => ?_
        cases hP : enoughB t (bitsL t.eyes.length (i : Int) 0)
        · simp -implicitDefEqProofs (maxSteps := 999999) (disch := first | with_reducible rfl | omega | (simp only [nA, nS, nD] <;> omega) | fail) only [go_sem, t1, t3, t4, t5, wr_succ]
          exact ⟨_, _, _, _, some c, rfl, hs2.trans s3, by rw [es]; exact hb.skip (.inl hP), ⟨ac2.mono s3, rfl, hc⟩, (by simp [ev_c, ev_put, t1] <;> rfl), (by simp [ev_c, ev_put, t3] <;> rfl), (by simp [ev_c, ev_put, t4] <;> rfl), (by simp [ev_c, ev_put] <;> rfl)⟩
        · simp -implicitDefEqProofs (maxSteps := 999999) (disch := first | with_reducible rfl | omega | (simp only [nA, nS, nD] <;> omega) | fail) only [go_sem, t1, t3, t4, t5, wr_succ]
          exact ⟨_, _, _, _, some _, rfl, hs2.trans s3, by rw [es]; exact hb.take hP (fun c' e => by cases e; exact hbf), ⟨az.mono s3, rfl, by omega⟩, (by simp [ev_c, ev_put, t1] <;> rfl), (by simp [ev_c, ev_put] <;> rfl), (by simp [ev_c, ev_put] <;> rfl), (by simp [ev_c, ev_put] <;> rfl)⟩
      · have c1' : ¬ ((bitsL t.eyes.length (i : Int) 0).length : Int) < (c.length : Int) := by omega
        by_cases c2 : (bitsL t.eyes.length (i : Int) 0).length = c.length
        · have c2' : ((bitsL t.eyes.length (i : Int) 0).length : Int) = (c.length : Int) := by omega
          have hbf : Silk.before (bitsL t.eyes.length (i : Int) 0) c = lexlt (bitsL t.eyes.length (i : Int) 0) c := by unfold Silk.before; rw [if_pos c2]
          have hfi := fun R => first_ev az ac2 c2 R
          cases hlx : lexlt (bitsL t.eyes.length (i : Int) 0) c
          · rw [hlx] at hbf hfi
            simp -implicitDefEqProofs (maxSteps := 999999) (disch := first | with_reducible rfl | omega | (simp only [nA, nS, nD] <;> omega) | fail) only [go_sem, t1, t3, t4, t5, hs2.cells g1, lz, lc, c1', c2', Int.lt_irrefl, hfi, wr_succ]
            exact ⟨_, _, _, _, some c, rfl, hs2, by rw [es]; exact hb.skip (.inr ⟨c, rfl, hbf⟩), ⟨ac2, rfl, hc⟩, (by simp [ev_c, ev_put, t1] <;> rfl), (by simp [ev_c, ev_put, t3] <;> rfl), (by simp [ev_c, ev_put, t4] <;> rfl), (by simp [ev_c, ev_put] <;> rfl)⟩
          · rw [hlx] at hbf hfi
            simp -implicitDefEqProofs (maxSteps := 999999) (disch := first | with_reducible rfl | omega | (simp only [nA, nS, nD] <;> omega) | fail) only [go_sem, t1, t3, t4, t5, hs2.cells g1, lz, lc, c1', c2', Int.lt_irrefl, hfi]
            refine en _ fun h3 s3 => ?_
            cases hP : enoughB t (bitsL t.eyes.length (i : Int) 0)
            · simp -implicitDefEqProofs (maxSteps := 999999) (disch := first | with_reducible rfl | omega | (simp only [nA, nS, nD] <;> omega) | fail) only [go_sem, t1, t3, t4, t5, wr_succ]
              exact ⟨_, _, _, _, some c, rfl, hs2.trans s3, by rw [es]; exact hb.skip (.inl hP), ⟨ac2.mono s3, rfl, hc⟩, (by simp [ev_c, ev_put, t1] <;> rfl), (by simp [ev_c, ev_put, t3] <;> rfl), (by simp [ev_c, ev_put, t4] <;> rfl), (by simp [ev_c, ev_put] <;> rfl)⟩
            · simp -implicitDefEqProofs (maxSteps := 999999) (disch := first | with_reducible rfl | omega | (simp only [nA, nS, nD] <;> omega) | fail) only [go_sem, t1, t3, t4, t5, wr_succ]
              exact ⟨_, _, _, _, some _, rfl, hs2.trans s3, by rw [es]; exact hb.take hP (fun c' e => by cases e; exact hbf), ⟨az.mono s3, rfl, by omega⟩, (by simp [ev_c, ev_put, t1] <;> rfl), (by simp [ev_c, ev_put] <;> rfl), (by simp [ev_c, ev_put] <;> rfl), (by simp [ev_c, ev_put] <;> rfl)⟩
        · have c2' : ¬ ((bitsL t.eyes.length (i : Int) 0).length : Int) = (c.length : Int) := by omega
          have hbf : Silk.before (bitsL t.eyes.length (i : Int) 0) c = false := by unfold Silk.before; rw [if_neg c2]; simpa using c1
          simp -implicitDefEqProofs (maxSteps := 999999) (disch := first | with_reducible rfl | omega | (simp only [nA, nS, nD] <;> omega) | fail) only [go_sem, t1, t3, t4, t5, hs2.cells g1, lz, lc, c1', c2', wr_succ]
          exact ⟨_, _, _, _, some c, rfl, hs2, by rw [es]; exact hb.skip (.inr ⟨c, rfl, hbf⟩), ⟨ac2, rfl, hc⟩, (by simp [ev_c, ev_put, t1] <;> rfl), (by simp [ev_c, ev_put, t3] <;> rfl), (by simp [ev_c, ev_put, t4] <;> rfl), (by simp [ev_c, ev_put] <;> rfl)⟩
  · rintro s ⟨tm, h', y, f, best, rfl, hs, hb, fy, t1, t3, t4, t5⟩
    have hbl : best = few t := by
      rw [← h2p] at hb
      exact BestUpto.last (Int.le_refl _) hb fun t0 a b => by omega
    obtain ⟨c, hc, _⟩ := few_some t
    simp -implicitDefEqProofs (maxSteps := 999999) (disch := first | with_reducible rfl | omega | (simp only [nA, nS, nD] <;> omega) | fail) only [go_sem, t1, t3, t4, t5, hs.cells g1, hlE, hset, h2p, Int.lt_irrefl]
    rw [hbl, hc] at fy
    exact q _ _ c (s1.trans hs) hc fy.1
end Go.Ab.Tryz
set_option linter.unusedSimpArgs false
set_option linter.unusedVariables false
namespace Go.Ab.Tryz
open Go.Ab.Silk (Inc bitsL lexlt before IsMin BestUpto firstOf)
theorem tellK_pw (t : Tb) (a b : Sd) : ∀ n, (tellK t a b n).Pairwise (· < ·)
  | 0 => List.Pairwise.nil
  | n + 1 => by
    simp only [tellK]
    refine List.pairwise_append.2 ⟨tellK_pw t a b n, by split <;> simp, fun x hx y hy => ?_⟩
    obtain ⟨j, hj, rfl, _⟩ := mem_tellK.1 hx
    split at hy
    · rw [List.mem_singleton] at hy; subst hy; omega
    · cases hy
def aloneTo (t : Tb) (e : Nat) (a b : Sd) (n : Nat) : Bool := tellsE t e a b && (List.range n).all fun k => decide (k = e) || !tellsE t k a b
theorem alone_step (t : Tb) (e : Nat) (a b : Sd) (n : Nat) : aloneTo t e a b (n + 1) = (aloneTo t e a b n && (decide (n = e) || !tellsE t n a b)) := by
  unfold aloneTo
  rw [List.range_succ, List.all_append, Bool.and_assoc]
  simp
theorem alone_all {t : Tb} {e : Nat} {a b : Sd} (he : e < t.eyes.length) : aloneTo t e a b t.eyes.length = decide (tellK t a b t.eyes.length = [(e : Int)]) := by
  rw [Bool.eq_iff_iff, decide_eq_true_eq]
  unfold aloneTo
  rw [Bool.and_eq_true, List.all_eq_true]
  constructor
  · rintro ⟨h1, h2⟩
    refine inc_ext (tellK_pw ..) (by simp) fun x => ?_
    rw [mem_tellK, List.mem_singleton]
    constructor
    · rintro ⟨j, hj, rfl, h3⟩
      have := h2 j (List.mem_range.2 hj)
      rw [h3] at this
      have : j = e := by simpa using this
      omega
    · rintro rfl
      exact ⟨e, he, rfl, h1⟩
  · intro h
    have h1 : (e : Int) ∈ tellK t a b t.eyes.length := by rw [h]; simp
    obtain ⟨j, hj, ej, h2⟩ := mem_tellK.1 h1
    have : j = e := by omega
    subst this
    refine ⟨h2, fun k hk => ?_⟩
    cases c : tellsE t k a b
    · simp
    · have : (k : Int) ∈ tellK t a b t.eyes.length := mem_tellK.2 ⟨k, List.mem_range.1 hk, rfl, c⟩
      rw [h, List.mem_singleton] at this
      simp; omega
set_option maxHeartbeats 4000000 in
theorem refWitness_ev {h : H} {v : V} {t : Tb} (hw : h.wf) (ht : TbIs h v t) (g : Good t) {e : Nat} (he : e < t.eyes.length) (Q : V → H → Prop) (q : ∀ h', h.Sub h' → Q (witV (wit t (e : Int))) h') : Ev fnG fastA (.fn 31 [] []) [v, .int .i64 (e : Int)] h Q := by
  have ht0 := ht
  obtain ⟨E, L, P, rfl, aE, aL, aP⟩ := ht
  have hlE := aE.lenE
  have hlP := aP.lenE
  have gE := g.eyes
  have gp := g.pieces
  have s1 : h.Sub (h.add (.cells .rw [E, L, P])) := (by repeat (first | assumption | exact H.Sub.refl (by assumption) | refine H.Sub.add ?_ _ | refine H.Sub.set ?_ (by first | omega | (simp only [H.next_add, H.next_set, H.next_del] <;> omega)) (by first | omega | (simp only [H.next_add, H.next_set, H.next_del] <;> omega)) (by assumption) _))
  have g1 : (h.add (.cells .rw [E, L, P])).cells h.next = some [E, L, P] := cells_add_new rfl
  refine Ev_body (fd := c31) rfl rfl rfl ?_
  simp -implicitDefEqProofs (maxSteps := 999999) (disch := first | with_reducible rfl | omega | (simp only [nA, nS, nD] <;> omega) | fail) only [c31, go_sem]
  generalize h.add (.cells .rw [E, L, P]) = h1 at s1 g1 ⊢
  refine W_count t.pieces.length (fun a s => ∃ tm h', s = ⟨tm, h', []⟩ ∧ h1.Sub h' ∧ (∀ a', a' < a → ((List.range t.pieces.length).findSome? fun b => witF t (e : Int) a' b) = none) ∧ (Opd.t 1).ev tm = .int .i64 (e : Int) ∧ (Opd.t 2).ev tm = .ptr h.next 0 ∧ (Opd.t 7).ev tm = .int .i64 (a : Int))
    ?_ ?_ (i := 0) (Nat.zero_le _) ⟨_, _, rfl, H.Sub.refl s1.wf, fun a' h0 => by omega, (by simp [ev_c, ev_put] <;> rfl), (by simp [ev_c, ev_put] <;> rfl), (by simp [ev_c, ev_put] <;> rfl)⟩
  · rintro a s ha ⟨tm, h', rfl, hs, hno, t1, t2, t7⟩
    have ha' : (a : Int) < (t.pieces.length : Int) := by omega
    simp -implicitDefEqProofs (maxSteps := 999999) (disch := first | with_reducible rfl | omega | (simp only [nA, nS, nD] <;> omega) | fail) only [go_sem, t1, t2, t7, hs.cells g1, hlP, ha', wr_succ]
    refine W_loop (fun kk s => ∃ tm h' b, s = ⟨tm, h', []⟩ ∧ kk = t.pieces.length - b ∧ a < b ∧ b ≤ t.pieces.length ∧ h1.Sub h' ∧ (∀ b', b' < b → witF t (e : Int) a b' = none) ∧ (Opd.t 1).ev tm = .int .i64 (e : Int) ∧ (Opd.t 2).ev tm = .ptr h.next 0 ∧ (Opd.t 7).ev tm = .int .i64 (a : Int) ∧ (Opd.t 8).ev tm = .int .i64 (b : Int)) ?_ (t.pieces.length - (a + 1)) _
      ⟨_, _, a + 1, rfl, rfl, by omega, by omega, hs, fun b' hb' => by unfold witF; rw [if_neg (by omega)], (by simp [ev_c, ev_put, t1] <;> rfl), (by simp [ev_c, ev_put, t2] <;> rfl), (by simp [ev_c, ev_put, t7] <;> rfl), (by simp [ev_c, ev_put] <;> rfl)⟩
    clear t1 t2 t7 hs
    rintro kk s ⟨tm, h', b, rfl, hkk, hab, hbn, hs, hnb, t1, t2, t7, t8⟩
    by_cases hb : b < t.pieces.length
    · have hb' : (b : Int) < (t.pieces.length : Int) := by omega
      have ia := g.piece _ (List.getElem_mem ha)
      have ib := g.piece _ (List.getElem_mem hb)
      obtain ⟨bA, oA, cA, csA, eA, hcA, hqA, hgA, _, _⟩ := (aP.mono (s1.trans hs)).at ha
      obtain ⟨bB, oB, cB, csB, eB, hcB, hqB, hgB, _, _⟩ := (aP.mono (s1.trans hs)).at hb
      simp only [encD] at hgA hgB
      have htl := fun (hh : H) (ss : h'.Sub hh) (k : Nat) (hk : k < t.eyes.length) => refTells_ev (h := hh) (v := .agg [E, L, P]) (t := t) ss.wf (ht0.mono (s1.trans (hs.trans ss))) g hk ia ib
      simp only [encD] at htl
      simp -implicitDefEqProofs (maxSteps := 999999) (disch := first | with_reducible rfl | omega | (simp only [nA, nS, nD] <;> omega) | fail) only [go_sem, t1, t2, t7, t8, hs.cells g1, hlP, hb', hqA (nat_cst a), hcA, hgA, hqB (nat_cst b), hcB, hgB]
      refine htl h' (H.Sub.refl hs.wf) e he _ fun h2 s2 => ?_
      have hs2 := hs.trans s2
      simp -implicitDefEqProofs (maxSteps := 999999) (disch := first | with_reducible rfl | omega | (simp only [nA, nS, nD] <;> omega) | fail) only [go_sem, t1, t2, t7, t8, hs.cells g1, hs2.cells g1, hlP, hqA (nat_cst a), hcA, hgA, hqB (nat_cst b), hcB, hgB]
      have tz : aloneTo t e t.pieces[a] t.pieces[b] 0 = tellsE t e t.pieces[a] t.pieces[b] := by simp [aloneTo]
      refine W.mono (Q := fun x1 s => x1 = .ext 4 ∧ ∃ tm h', s = ⟨tm, h', []⟩ ∧ h1.Sub h' ∧ (Opd.t 1).ev tm = .int .i64 (e : Int) ∧ (Opd.t 2).ev tm = .ptr h.next 0 ∧ (Opd.t 7).ev tm = .int .i64 (a : Int) ∧ (Opd.t 8).ev tm = .int .i64 (b : Int) ∧ (Opd.t 9).ev tm = .bool (aloneTo t e t.pieces[a] t.pieces[b] t.eyes.length))
       (W_count t.eyes.length (fun i s => ∃ tm hh, s = ⟨tm, hh, []⟩ ∧ h'.Sub hh ∧ (Opd.t 1).ev tm = .int .i64 (e : Int) ∧ (Opd.t 2).ev tm = .ptr h.next 0 ∧ (Opd.t 7).ev tm = .int .i64 (a : Int) ∧ (Opd.t 8).ev tm = .int .i64 (b : Int) ∧ (Opd.t 9).ev tm = .bool (aloneTo t e t.pieces[a] t.pieces[b] i) ∧ (Opd.t 10).ev tm = .int .i64 (i : Int))
        ?_ ?_ (i := 0) (Nat.zero_le _) ⟨_, _, rfl, s2, (by simp [ev_c, ev_put, t1] <;> rfl), (by simp [ev_c, ev_put, t2] <;> rfl), (by simp [ev_c, ev_put, t7] <;> rfl), (by simp [ev_c, ev_put, t8] <;> rfl), by rw [tz]; exact (by simp [ev_c, ev_put] <;> rfl), (by simp [ev_c, ev_put] <;> rfl)⟩) fun x1 s hx1 => ?_
      · clear t1 t2 t7 t8
        rintro i s hi ⟨tm, hh, rfl, sh, t1, t2, t7, t8, t9, t10⟩
        have hi' : (i : Int) < (t.eyes.length : Int) := by omega
        have gh := (hs.trans sh).cells g1
        have hcA' := sh.cells hcA
        have hcB' := sh.cells hcB
        have hst := alone_step t e t.pieces[a] t.pieces[b] i
        cases hal : aloneTo t e t.pieces[a] t.pieces[b] i
        · rw [hal] at t9 hst
          rw [Bool.false_and] at hst
          simp -implicitDefEqProofs (maxSteps := 999999) (disch := first | with_reducible rfl | omega | (simp only [nA, nS, nD] <;> omega) | fail) only [go_sem, t1, t2, t7, t8, t9, t10, gh, hlE, hi', wr_succ]
          exact ⟨_, _, rfl, sh, (by simp [ev_c, ev_put, t1] <;> rfl), (by simp [ev_c, ev_put, t2] <;> rfl), (by simp [ev_c, ev_put, t7] <;> rfl), (by simp [ev_c, ev_put, t8] <;> rfl), by rw [hst]; exact (by simp [ev_c, ev_put] <;> rfl), (by simp [ev_c, ev_put] <;> rfl)⟩
        · rw [hal] at t9 hst
          rw [Bool.true_and] at hst
          by_cases hie : i = e
          · subst hie
            rw [decide_eq_true rfl, Bool.true_or] at hst
            simp -implicitDefEqProofs (maxSteps := 999999) (disch := first | with_reducible rfl | omega | (simp only [nA, nS, nD] <;> omega) | fail) only [go_sem, t1, t2, t7, t8, t9, t10, gh, hlE, hi', wr_succ]
            exact ⟨_, _, rfl, sh, (by simp [ev_c, ev_put, t1] <;> rfl), (by simp [ev_c, ev_put, t2] <;> rfl), (by simp [ev_c, ev_put, t7] <;> rfl), (by simp [ev_c, ev_put, t8] <;> rfl), by rw [hst]; exact (by simp [ev_c, ev_put] <;> rfl), (by simp [ev_c, ev_put] <;> rfl)⟩
          · have hne : ¬ (i : Int) = (e : Int) := by omega
            rw [decide_eq_false hie, Bool.false_or] at hst
            simp -implicitDefEqProofs (maxSteps := 999999) (disch := first | with_reducible rfl | omega | (simp only [nA, nS, nD] <;> omega) | fail) only [go_sem, t1, t2, t7, t8, t9, t10, gh, hlE, hi', hne, hqA (nat_cst a), hcA', hgA, hqB (nat_cst b), hcB', hgB]
            refine htl hh sh i hi _ fun h3 s3 => ?_
            simp -implicitDefEqProofs (maxSteps := 999999) (disch := first | with_reducible rfl | omega | (simp only [nA, nS, nD] <;> omega) | fail) only [go_sem, t1, t2, t7, t8, t9, t10, gh, hlE, hi', hne, hqA (nat_cst a), hcA', hgA, hqB (nat_cst b), hcB', hgB, wr_succ]
            exact ⟨_, _, rfl, sh.trans s3, (by simp [ev_c, ev_put, t1] <;> rfl), (by simp [ev_c, ev_put, t2] <;> rfl), (by simp [ev_c, ev_put, t7] <;> rfl), (by simp [ev_c, ev_put, t8] <;> rfl), by rw [hst]; exact (by simp [ev_c, ev_put] <;> rfl), (by simp [ev_c, ev_put] <;> rfl)⟩
      · clear t1 t2 t7 t8
        rintro s ⟨tm, hh, rfl, sh, t1, t2, t7, t8, t9, t10⟩
        simp -implicitDefEqProofs (maxSteps := 999999) (disch := first | with_reducible rfl | omega | (simp only [nA, nS, nD] <;> omega) | fail) only [go_sem, t1, t2, t7, t8, t9, t10, (hs.trans sh).cells g1, hlE, Int.lt_irrefl]
        exact ⟨_, _, rfl, hs.trans sh, (by simp [ev_c, ev_put, t1] <;> rfl), (by simp [ev_c, ev_put, t2] <;> rfl), (by simp [ev_c, ev_put, t7] <;> rfl), (by simp [ev_c, ev_put, t8] <;> rfl), (by simp [ev_c, ev_put, t9] <;> rfl)⟩
      clear t1 t2 t7 t8
      obtain ⟨rfl, tm, h3, rfl, hs3, t1, t2, t7, t8, t9⟩ := hx1
      rw [alone_all he] at t9
      have etp : tellP t a b = tellK t t.pieces[a] t.pieces[b] t.eyes.length := tellP_at ha hb
      by_cases hE : tellK t t.pieces[a] t.pieces[b] t.eyes.length = [(e : Int)]
      · rw [decide_eq_true hE] at t9
        have hw1 : witF t (e : Int) a b = some (a, b) := by unfold witF; rw [if_pos ⟨hab, by rw [etp]; exact hE⟩]
        have : wit t (e : Int) = some (a, b) := some_first (some_first hw1 hnb _ hb) hno _ ha
        rw [this] at q
        simp -implicitDefEqProofs (maxSteps := 999999) (disch := first | with_reducible rfl | omega | (simp only [nA, nS, nD] <;> omega) | fail) only [go_sem, t1, t2, t7, t8, t9]
        exact q _ (s1.trans hs3)
      · rw [decide_eq_false hE] at t9
        simp -implicitDefEqProofs (maxSteps := 999999) (disch := first | with_reducible rfl | omega | (simp only [nA, nS, nD] <;> omega) | fail) only [go_sem, t1, t2, t7, t8, t9, wr_succ]
        exact ⟨_, by omega, _, _, b + 1, rfl, rfl, by omega, by omega, hs3, fun b' hb' => by
          by_cases e1 : b' = b
          · subst e1; unfold witF; rw [if_neg (fun h => hE (by rw [← etp]; exact h.2))]
          · exact hnb b' (by omega), (by simp [ev_c, ev_put, t1] <;> rfl), (by simp [ev_c, ev_put, t2] <;> rfl), (by simp [ev_c, ev_put, t7] <;> rfl), (by simp [ev_c, ev_put] <;> rfl)⟩
    · have hb' : ¬ (b : Int) < (t.pieces.length : Int) := by omega
      simp -implicitDefEqProofs (maxSteps := 999999) (disch := first | with_reducible rfl | omega | (simp only [nA, nS, nD] <;> omega) | fail) only [go_sem, t1, t2, t7, t8, hs.cells g1, hlP, hb', wr_succ]
      exact ⟨_, _, rfl, hs, fun a' h0 => by
        by_cases e1 : a' = a
        · subst e1; exact none_all fun b' hb' => hnb b' (by omega)
        · exact hno a' (by omega), (by simp [ev_c, ev_put, t1] <;> rfl), (by simp [ev_c, ev_put, t2] <;> rfl), (by simp [ev_c, ev_put] <;> rfl)⟩
  · rintro s ⟨tm, h', rfl, hs, hno, t1, t2, t7⟩
    have : wit t (e : Int) = none := none_all hno
    rw [this] at q
    simp -implicitDefEqProofs (maxSteps := 999999) (disch := first | with_reducible rfl | omega | (simp only [nA, nS, nD] <;> omega) | fail) only [go_sem, t1, t2, t7, hs.cells g1, hlP, Int.lt_irrefl]
    exact q _ (s1.trans hs)
set_option maxHeartbeats 1000000 in
theorem refNeeded_ev {h : H} {v : V} {t : Tb} (hw : h.wf) (ht : TbIs h v t) (g : Good t) (Q : V → H → Prop) (q : ∀ y h', h.Sub h' → SlAt h' y 1 ((needK t t.eyes.length).map encI) → Q y h') : Ev fnG fastA (.fn 30 [] []) [v] h Q := by
  have ht0 := ht
  obtain ⟨E, L, P, rfl, aE, aL, aP⟩ := ht
  have hlE := aE.lenE
  have gE := g.eyes
  have s1 : h.Sub (h.add (.cells .rw [E, L, P])) := (by repeat (first | assumption | exact H.Sub.refl (by assumption) | refine H.Sub.add ?_ _ | refine H.Sub.set ?_ (by first | omega | (simp only [H.next_add, H.next_set, H.next_del] <;> omega)) (by first | omega | (simp only [H.next_add, H.next_set, H.next_del] <;> omega)) (by assumption) _))
  have g1 : (h.add (.cells .rw [E, L, P])).cells h.next = some [E, L, P] := cells_add_new rfl
  refine Ev_body (fd := c30) rfl rfl rfl ?_
  simp -implicitDefEqProofs (maxSteps := 999999) (disch := first | with_reducible rfl | omega | (simp only [nA, nS, nD] <;> omega) | fail) only [c30, go_sem]
  generalize h.add (.cells .rw [E, L, P]) = h1 at s1 g1 ⊢
  refine W_count t.eyes.length (fun i s => ∃ tm h' y, s = ⟨tm, h', []⟩ ∧ OwnC h1 h' y 1 ((needK t i).map encI) ∧ (Opd.t 1).ev tm = .ptr h.next 0 ∧ (Opd.t 3).ev tm = y ∧ (Opd.t 4).ev tm = .int .i64 (i : Int))
    ?_ ?_ (i := 0) (Nat.zero_le _) ⟨_, _, .nils, rfl, ⟨H.Sub.refl s1.wf, by simp [needK], .inl ⟨rfl, rfl⟩⟩, (by simp [ev_c, ev_put] <;> rfl), (by simp [ev_c, ev_put] <;> rfl), (by simp [ev_c, ev_put] <;> rfl)⟩
  · rintro i s hi ⟨tm, h', y, rfl, oy, t1, t3, t4⟩
    have hi' : (i : Int) < (t.eyes.length : Int) := by omega
    have hs := oy.1
    have hln := needK_len t i
    simp -implicitDefEqProofs (maxSteps := 999999) (disch := first | with_reducible rfl | omega | (simp only [nA, nS, nD] <;> omega) | fail) only [go_sem, t1, t3, t4, hs.cells g1, hlE, hi']
    refine refWitness_ev hs.wf (ht0.mono (s1.trans hs)) g hi _ fun h2 s2 => ?_
    have sA := (H.Sub.refl s2.wf).add (.cells .rw [.int .i64 (i : Int)])
    cases hwt : wit t (i : Int) with
    | none =>
      have e1 : needK t (i + 1) = needK t i := by simp [needK, hwt]
      simp -implicitDefEqProofs (maxSteps := 999999) (disch := first | with_reducible rfl | omega | (simp only [nA, nS, nD] <;> omega) | fail) only [go_sem, t1, t3, t4, witV, wr_succ]
      exact ⟨_, _, y, rfl, by rw [e1]; exact oy.mono s2, (by simp [ev_c, ev_put, t1] <;> rfl), (by simp [ev_c, ev_put, t3] <;> rfl), (by simp [ev_c, ev_put] <;> rfl)⟩
    | some p =>
      have e1 : needK t (i + 1) = needK t i ++ [(i : Int)] := by simp [needK, hwt]
      simp -implicitDefEqProofs (maxSteps := 999999) (disch := first | with_reducible rfl | omega | (simp only [nA, nS, nD] <;> omega) | fail) only [go_sem, t1, t3, t4, witV]
      refine ((oy.mono s2).mono sA).app1 (by_ := 8) (r := encI (i : Int)) s1.wf rfl (by omega) own1_lit rfl (by simp only [List.length_map]; omega) (by simp only [List.length_map]; omega) fun y2 h3 oy2 dy2 ky2 => ?_
      simp -implicitDefEqProofs (maxSteps := 999999) (disch := first | with_reducible rfl | omega | (simp only [nA, nS, nD] <;> omega) | fail) only [go_sem, t1, t3, t4, wr_succ]
      exact ⟨_, _, y2, rfl, by rw [e1]; simpa using oy2, (by simp [ev_c, ev_put, t1] <;> rfl), (by simp [ev_c, ev_put] <;> rfl), (by simp [ev_c, ev_put] <;> rfl)⟩
  · rintro s ⟨tm, h', y, rfl, oy, t1, t3, t4⟩
    have hln := needK_len t t.eyes.length
    simp -implicitDefEqProofs (maxSteps := 999999) (disch := first | with_reducible rfl | omega | (simp only [nA, nS, nD] <;> omega) | fail) only [go_sem, t1, t3, t4, oy.1.cells g1, hlE, Int.lt_irrefl]
    exact q _ _ (s1.trans oy.1) (oy.sl (by simp only [List.length_map]; omega))
end Go.Ab.Tryz
set_option linter.unusedSimpArgs false
set_option linter.unusedVariables false
namespace Go.Ab.Tryz
open Go.Ab.Silk (Inc bitsL lexlt before IsMin BestUpto firstOf)
def fewL (t : Tb) : List Int := if check t = 0 then (few t).getD [] else []
def needL (t : Tb) : List Int := if check t = 0 then needK t t.eyes.length else []
set_option maxHeartbeats 4000000 in
theorem EyeEnough_ev {h : H} {v x : V} {t : Tb} {l : List Int} (hw : h.wf) (ht : TbIs h v t) (hx : SlAt h x 1 (l.map encI)) (e : Int) :
    Ev fnG fastA (.fn 4 [] []) [v, x, .int .i64 e] h (fun u _ => u = .bool true) := by
  have ht0 := ht
  obtain ⟨E, L, P, rfl, aE, aL, aP⟩ := ht
  have hlE := aE.lenE
  have hlx := hx.lenE
  have hbx := hx.boundE
  refine Ev_body (fd := c4) rfl rfl rfl ?_
  have s3 : h.Sub (h.add (.cells .rw [E, L, P])) := (by repeat (first | assumption | exact H.Sub.refl (by assumption) | refine H.Sub.add ?_ _ | refine H.Sub.set ?_ (by first | omega | (simp only [H.next_add, H.next_set, H.next_del] <;> omega)) (by first | omega | (simp only [H.next_add, H.next_set, H.next_del] <;> omega)) (by assumption) _))
  have q3 : (h.add (.cells .rw [E, L, P])).cells h.next = some [E, L, P] := cells_add_new rfl
  have nx : (h.add (.cells .rw [E, L, P])).next = h.next + 1 := H.next_add _ _
  simp -implicitDefEqProofs (maxSteps := 999999) (disch := first | with_reducible rfl | omega | (simp only [nA, nS, nD] <;> omega) | fail) only [c4, go_sem]
  generalize (h.add (.cells .rw [E, L, P])) = h3 at s3 q3 nx ⊢
  refine great_ev s3.wf (ht0.mono s3) _ fun h4 s34 => ?_
  cases hg : greatT t
  case true =>
    simp -implicitDefEqProofs (maxSteps := 999999) (disch := first | with_reducible rfl | omega | (simp only [nA, nS, nD] <;> omega) | fail) only [go_sem, awake_eq]
  have hsm := Small_of hg
  by_cases hl15 : (15 : Int) < (l.length : Int)
  · simp -implicitDefEqProofs (maxSteps := 999999) (disch := first | with_reducible rfl | omega | (simp only [nA, nS, nD] <;> omega) | fail) only [go_sem, hlx, hl15, awake_eq]
  simp -implicitDefEqProofs (maxSteps := 999999) (disch := first | with_reducible rfl | omega | (simp only [nA, nS, nD] <;> omega) | fail) only [go_sem, hlx, hl15, s34.cells q3]
  refine own_ev s34.wf (ht0.mono (s3.trans s34)) hsm _ fun u h5 s45 hu => ?_
  have s35 := s34.trans s45
  simp -implicitDefEqProofs (maxSteps := 999999) (disch := first | with_reducible rfl | omega | (simp only [nA, nS, nD] <;> omega) | fail) only [go_sem, s34.cells q3, s35.cells q3]
  refine theirs_ev s45.wf (ht0.mono (s3.trans s35)) hsm _ fun o h6 s56 ho => ?_
  have s36 := s35.trans s56
  have hu0 := hu.is hsm
  have ho0 := ho
  obtain ⟨a1, a2, a3, rfl, hu⟩ := hu
  obtain ⟨E2, L2, P2, rfl, o1, o2, o3⟩ := ho
  have n1 := o1.one
  have n2 := o2.one
  have n3 := o3.one
  have hx6 := hx.mono (s3.trans s36)
  have sD := (H.Sub.refl s56.wf).add (.cells .rw (l.map encI).flatten)
  have hm6 : SlAt (h6.add (.cells .rw (l.map encI).flatten)) (.sl h6.next 0 l.length (.fix l.length)) 1 (l.map encI) := SlAt.full (by rw [List.length_map]) (get_add_new rfl) (by simp [encI]) (by rw [List.length_map]; omega)
  have s67 : h6.Sub (((((h6.add (.cells .rw (l.map encI).flatten)).add (.cells .rw [.nils, .nils, .nils])).add (.cells .rw [.nils, .nils, .nils])).set (h6.next + 1) (.cells .rw [.sl a1 0 t.eyes.length (.fix t.eyes.length), .sl a2 0 t.lights.length (.fix t.lights.length), .sl a3 0 t.pieces.length (.fix t.pieces.length)])).set (h6.next + 1 + 1) (.cells .rw [E2, L2, P2])) := ((((((H.Sub.refl s56.wf).add _).add _).add _).set (b := h6.next + 1) (by omega) (by simp only [H.next_add]; omega) s56.wf _).set (b := h6.next + 1 + 1) (by omega) (by simp only [H.next_set, H.next_add]; omega) s56.wf _)
  have c7 : (((((h6.add (.cells .rw (l.map encI).flatten)).add (.cells .rw [.nils, .nils, .nils])).add (.cells .rw [.nils, .nils, .nils])).set (h6.next + 1) (.cells .rw [.sl a1 0 t.eyes.length (.fix t.eyes.length), .sl a2 0 t.lights.length (.fix t.lights.length), .sl a3 0 t.pieces.length (.fix t.pieces.length)])).set (h6.next + 1 + 1) (.cells .rw [E2, L2, P2])).cells (h6.next + 1) = some [.sl a1 0 t.eyes.length (.fix t.eyes.length), .sl a2 0 t.lights.length (.fix t.lights.length), .sl a3 0 t.pieces.length (.fix t.pieces.length)] := by simp -implicitDefEqProofs (maxSteps := 999999) (disch := first | with_reducible rfl | omega | (simp only [nA, nS, nD] <;> omega) | fail) only [go_sem]
  have c8 : (((((h6.add (.cells .rw (l.map encI).flatten)).add (.cells .rw [.nils, .nils, .nils])).add (.cells .rw [.nils, .nils, .nils])).set (h6.next + 1) (.cells .rw [.sl a1 0 t.eyes.length (.fix t.eyes.length), .sl a2 0 t.lights.length (.fix t.lights.length), .sl a3 0 t.pieces.length (.fix t.pieces.length)])).set (h6.next + 1 + 1) (.cells .rw [E2, L2, P2])).cells (h6.next + 1 + 1) = some [E2, L2, P2] := by simp -implicitDefEqProofs (maxSteps := 999999) (disch := first | with_reducible rfl | omega | (simp only [nA, nS, nD] <;> omega) | fail) only [go_sem]
  have c9 : (((((h6.add (.cells .rw (l.map encI).flatten)).add (.cells .rw [.nils, .nils, .nils])).add (.cells .rw [.nils, .nils, .nils])).set (h6.next + 1) (.cells .rw [.sl a1 0 t.eyes.length (.fix t.eyes.length), .sl a2 0 t.lights.length (.fix t.lights.length), .sl a3 0 t.pieces.length (.fix t.pieces.length)])).set (h6.next + 1 + 1) (.cells .rw [E2, L2, P2])).get h6.next = some (.cells .rw (l.map encI).flatten) := by simp -implicitDefEqProofs (maxSteps := 999999) (disch := first | with_reducible rfl | omega | (simp only [nA, nS, nD] <;> omega) | fail) only [go_sem]
  have hm7 : SlAt (((((h6.add (.cells .rw (l.map encI).flatten)).add (.cells .rw [.nils, .nils, .nils])).add (.cells .rw [.nils, .nils, .nils])).set (h6.next + 1) (.cells .rw [.sl a1 0 t.eyes.length (.fix t.eyes.length), .sl a2 0 t.lights.length (.fix t.lights.length), .sl a3 0 t.pieces.length (.fix t.pieces.length)])).set (h6.next + 1 + 1) (.cells .rw [E2, L2, P2])) (.sl h6.next 0 l.length (.fix l.length)) 1 (l.map encI) := SlAt.full (by rw [List.length_map]) c9 (by simp [encI]) (by rw [List.length_map]; omega)
  simp -implicitDefEqProofs (maxSteps := 999999) (disch := first | with_reducible rfl | omega | (simp only [nA, nS, nD] <;> omega) | fail) only [go_sem, s34.cells q3, s35.cells q3, s36.cells q3, n1, n2, n3, dupInt_ev s56.wf hx6 (by omega)]
  generalize ((((h6.add (.cells .rw (l.map encI).flatten)).add (.cells .rw [.nils, .nils, .nils])).add (.cells .rw [.nils, .nils, .nils])).set (h6.next + 1) (.cells .rw [.sl a1 0 t.eyes.length (.fix t.eyes.length), .sl a2 0 t.lights.length (.fix t.lights.length), .sl a3 0 t.pieces.length (.fix t.pieces.length)])).set (h6.next + 1 + 1) (.cells .rw [E2, L2, P2]) = h7 at s67 c7 c8 c9 hm7 ⊢
  have s37 := s36.trans s67
  have s7 := s3.trans s37
  have hx7 := hx.mono s7
  refine refCheck_ev s7.wf (ho0.mono s67) _ fun h8 s78 => ?_
  simp -implicitDefEqProofs (maxSteps := 999999) (disch := first | with_reducible rfl | omega | (simp only [nA, nS, nD] <;> omega) | fail) only [go_sem]
  refine PBd_join (R := fun x1 s => x1 = .nrm ∧ ∃ tm h' y16 y17, s = ⟨tm, h', []⟩ ∧ h7.Sub h' ∧ SlAt h' y16 1 ((fewL t).map encI) ∧ SlAt h' y17 1 ((needL t).map encI) ∧ (Opd.t 1).ev tm = x ∧ (Opd.t 2).ev tm = .int .i64 e ∧ (Opd.t 3).ev tm = .ptr h.next 0 ∧ (Opd.t 7).ev tm = .ptr (h6.next + 1) 0 ∧ (Opd.t 9).ev tm = .sl h6.next 0 l.length (.fix l.length) ∧ (Opd.t 10).ev tm = .int .i64 (check t) ∧ (Opd.t 11).ev tm = .int .i64 (lstE t l) ∧ (Opd.t 12).ev tm = .int .i64 (witE t e) ∧ (Opd.t 13).ev tm = .bool (enR t l) ∧ (Opd.t 14).ev tm = .int .i64 ((witA t e).1 : Int) ∧ (Opd.t 15).ev tm = .int .i64 ((witA t e).2 : Int) ∧ (Opd.t 16).ev tm = y16 ∧ (Opd.t 17).ev tm = y17) ?_ fun x1 s hx1 => ?_
  · by_cases c : check t = 0
    case neg =>
      have w1 : lstE t l = check t := by unfold lstE; rw [if_pos c]
      have w2 : witE t e = check t := by unfold witE; rw [if_pos c]
      have w3 : enR t l = false := by unfold enR; rw [w1, decide_eq_false c]; rfl
      have w4 : witA t e = (0, 0) := by unfold witA; rw [w2, if_neg c]
      have w5 : fewL t = [] := if_neg c
      have w6 : needL t = [] := if_neg c
      rw [w1, w2, w3, w4, w5, w6]
      simp -implicitDefEqProofs (maxSteps := 999999) (disch := first | with_reducible rfl | omega | (simp only [nA, nS, nD] <;> omega) | fail) only [go_sem, c]
      exact ⟨_, _, .nils, .nils, rfl, s78, (OwnSl.nil s78 1).sl (by simp), (OwnSl.nil s78 1).sl (by simp), (by simp [ev_c, ev_put] <;> rfl), (by simp [ev_c, ev_put] <;> rfl), (by simp [ev_c, ev_put] <;> rfl), (by simp [ev_c, ev_put] <;> rfl), (by simp [ev_c, ev_put] <;> rfl), (by simp [ev_c, ev_put] <;> rfl), (by simp [ev_c, ev_put] <;> rfl), (by simp [ev_c, ev_put] <;> rfl), (by simp [ev_c, ev_put] <;> rfl), (by simp [ev_c, ev_put] <;> rfl), (by simp [ev_c, ev_put] <;> rfl), (by simp [ev_c, ev_put] <;> rfl), (by simp [ev_c, ev_put] <;> rfl)⟩
    have g := check_iff.1 c
    have cd : decide (check t = 0) = true := decide_eq_true c
    rw [cd]
    have gE := g.eyes
    simp -implicitDefEqProofs (maxSteps := 999999) (disch := first | with_reducible rfl | omega | (simp only [nA, nS, nD] <;> omega) | fail) only [go_sem, s78.cells c8]
    refine refListed_ev s78.wf (ho0.mono (s67.trans s78)) (hx7.mono s78) (by omega) (by omega) _ fun h9 s89 => ?_
    have s79 := s78.trans s89
    have el := lstR_le t l c
    rw [← el]
    simp -implicitDefEqProofs (maxSteps := 999999) (disch := first | with_reducible rfl | omega | (simp only [nA, nS, nD] <;> omega) | fail) only [go_sem]
    refine PBd_join (R := fun x1 s => x1 = .nrm ∧ ∃ tm h', s = ⟨tm, h', []⟩ ∧ h7.Sub h' ∧ (Opd.t 1).ev tm = x ∧ (Opd.t 2).ev tm = .int .i64 e ∧ (Opd.t 3).ev tm = .ptr h.next 0 ∧ (Opd.t 7).ev tm = .ptr (h6.next + 1) 0 ∧ (Opd.t 8).ev tm = .ptr (h6.next + 1 + 1) 0 ∧ (Opd.t 9).ev tm = .sl h6.next 0 l.length (.fix l.length) ∧ (Opd.t 10).ev tm = .int .i64 0 ∧ (Opd.t 11).ev tm = .int .i64 (lstE t l) ∧ (Opd.t 13).ev tm = .bool (enR t l) ∧ (Opd.t 14).ev tm = .int .i64 0 ∧ (Opd.t 15).ev tm = .int .i64 0) ?_ fun x1 s hx1 => ?_
    · by_cases cl : lstE t l = 0
      · rw [decide_eq_true cl]
        simp -implicitDefEqProofs (maxSteps := 999999) (disch := first | with_reducible rfl | omega | (simp only [nA, nS, nD] <;> omega) | fail) only [go_sem, s79.cells c8]
        refine refEnough_ev s79.wf (ho0.mono (s67.trans s79)) g (hx7.mono s79) _ fun hA sA => ?_
        have e1 : enR t l = enoughB t l := by unfold enR; rw [cl]; rfl
        rw [e1]
        simp -implicitDefEqProofs (maxSteps := 999999) (disch := first | with_reducible rfl | omega | (simp only [nA, nS, nD] <;> omega) | fail) only [go_sem]
        exact ⟨_, _, rfl, s79.trans sA, (by simp [ev_c, ev_put] <;> rfl), (by simp [ev_c, ev_put] <;> rfl), (by simp [ev_c, ev_put] <;> rfl), (by simp [ev_c, ev_put] <;> rfl), (by simp [ev_c, ev_put] <;> rfl), (by simp [ev_c, ev_put] <;> rfl), (by simp [ev_c, ev_put, c] <;> rfl), (by simp [ev_c, ev_put] <;> rfl), (by simp [ev_c, ev_put] <;> rfl), (by simp [ev_c, ev_put] <;> rfl), (by simp [ev_c, ev_put] <;> rfl)⟩
      · rw [decide_eq_false cl]
        have e1 : enR t l = false := by unfold enR; rw [decide_eq_false cl]; rfl
        rw [e1]
        simp -implicitDefEqProofs (maxSteps := 999999) (disch := first | with_reducible rfl | omega | (simp only [nA, nS, nD] <;> omega) | fail) only [go_sem]
        exact ⟨_, _, rfl, s79, (by simp [ev_c, ev_put] <;> rfl), (by simp [ev_c, ev_put] <;> rfl), (by simp [ev_c, ev_put] <;> rfl), (by simp [ev_c, ev_put] <;> rfl), (by simp [ev_c, ev_put] <;> rfl), (by simp [ev_c, ev_put] <;> rfl), (by simp [ev_c, ev_put, c] <;> rfl), (by simp [ev_c, ev_put] <;> rfl), (by simp [ev_c, ev_put] <;> rfl), (by simp [ev_c, ev_put] <;> rfl), (by simp [ev_c, ev_put] <;> rfl)⟩
    obtain ⟨rfl, tm, hA, rfl, s7A, t1, t2, t3, t7, t8, t9, t10, t11, t13, t14, t15⟩ := hx1
    have w5 : fewL t = (few t).getD [] := if_pos c
    have w6 : needL t = needK t t.eyes.length := if_pos c
    simp -implicitDefEqProofs (maxSteps := 999999) (disch := first | with_reducible rfl | omega | (simp only [nA, nS, nD] <;> omega) | fail) only [go_sem, t1, t2, t3, t7, t8, t9, t10, t11, t13, t14, t15, s7A.cells c8]
    refine refFewest_ev s7A.wf (ho0.mono (s67.trans s7A)) g _ fun y16 hB cf sB hcf ay16 => ?_
    have s7B := s7A.trans sB
    simp -implicitDefEqProofs (maxSteps := 999999) (disch := first | with_reducible rfl | omega | (simp only [nA, nS, nD] <;> omega) | fail) only [go_sem, t1, t2, t3, t7, t8, t9, t10, t11, t13, t14, t15, s7A.cells c8, s7B.cells c8]
    refine refNeeded_ev s7B.wf (ho0.mono (s67.trans s7B)) g _ fun y17 hC sC ay17 => ?_
    have s7C := s7B.trans sC
    have ay16C : SlAt hC y16 1 ((fewL t).map encI) := by rw [w5, hcf]; exact ay16.mono sC
    have ay17C : SlAt hC y17 1 ((needL t).map encI) := by rw [w6]; exact ay17
    have q3C := (s37.trans s7C).cells q3
    by_cases ce : 0 ≤ e ∧ e < (t.eyes.length : Int)
    · obtain ⟨i, rfl⟩ := Int.eq_ofNat_of_zero_le ce.1
      have hi : i < t.eyes.length := by omega
      have ce1 := ce.1
      have ce2 := ce.2
      have ie : isEy t (i : Int) = true := by unfold isEy; exact decide_eq_true ce
      simp -implicitDefEqProofs (maxSteps := 999999) (disch := first | with_reducible rfl | omega | (simp only [nA, nS, nD] <;> omega) | fail) only [go_sem, t1, t2, t3, t7, t8, t9, t10, t11, t13, t14, t15, s7A.cells c8, s7B.cells c8, s7C.cells c8, q3C, hlE, ce1, ce2]
      refine refWitness_ev s7C.wf (ho0.mono (s67.trans s7C)) g hi _ fun hD sD => ?_
      cases hwt : wit t (i : Int) with
      | none =>
        have w2 : witE t (i : Int) = 6 := by unfold witE; rw [if_neg (by simp [c]), if_neg (by simp [ie]), hwt]; rfl
        have w4 : witA t (i : Int) = (0, 0) := by unfold witA; rw [w2]; rfl
        rw [w2, w4]
        simp -implicitDefEqProofs (maxSteps := 999999) (disch := first | with_reducible rfl | omega | (simp only [nA, nS, nD] <;> omega) | fail) only [go_sem, t1, t2, t3, t7, t8, t9, t10, t11, t13, t14, t15, witV]
        exact ⟨_, _, y16, y17, rfl, s7C.trans sD, ay16C.mono sD, ay17C.mono sD, (by simp [ev_c, ev_put, t1] <;> rfl), (by simp [ev_c, ev_put, t2] <;> rfl), (by simp [ev_c, ev_put, t3] <;> rfl), (by simp [ev_c, ev_put, t7] <;> rfl), (by simp [ev_c, ev_put, t9] <;> rfl), (by rw [c]; exact (by simp [ev_c, ev_put, t10] <;> rfl)), (by simp [ev_c, ev_put, t11] <;> rfl), (by simp [ev_c, ev_put] <;> rfl), (by simp [ev_c, ev_put, t13] <;> rfl), (by simp [ev_c, ev_put] <;> rfl), (by simp [ev_c, ev_put] <;> rfl), (by simp [ev_c, ev_put] <;> rfl), (by simp [ev_c, ev_put] <;> rfl)⟩
      | some pr =>
        have w2 : witE t (i : Int) = 0 := by unfold witE; rw [if_neg (by simp [c]), if_neg (by simp [ie]), hwt]; rfl
        have w4 : witA t (i : Int) = pr := by unfold witA; rw [w2, hwt]; rfl
        rw [w2, w4]
        simp -implicitDefEqProofs (maxSteps := 999999) (disch := first | with_reducible rfl | omega | (simp only [nA, nS, nD] <;> omega) | fail) only [go_sem, t1, t2, t3, t7, t8, t9, t10, t11, t13, t14, t15, witV]
        exact ⟨_, _, y16, y17, rfl, s7C.trans sD, ay16C.mono sD, ay17C.mono sD, (by simp [ev_c, ev_put, t1] <;> rfl), (by simp [ev_c, ev_put, t2] <;> rfl), (by simp [ev_c, ev_put, t3] <;> rfl), (by simp [ev_c, ev_put, t7] <;> rfl), (by simp [ev_c, ev_put, t9] <;> rfl), (by rw [c]; exact (by simp [ev_c, ev_put, t10] <;> rfl)), (by simp [ev_c, ev_put, t11] <;> rfl), (by simp [ev_c, ev_put] <;> rfl), (by simp [ev_c, ev_put, t13] <;> rfl), (by simp [ev_c, ev_put] <;> rfl), (by simp [ev_c, ev_put] <;> rfl), (by simp [ev_c, ev_put] <;> rfl), (by simp [ev_c, ev_put] <;> rfl)⟩
    · have ie : isEy t e = false := by unfold isEy; exact decide_eq_false ce
      have w2 : witE t e = 1 := by unfold witE; rw [if_neg (by simp [c]), if_pos ie]
      have w4 : witA t e = (0, 0) := by unfold witA; rw [w2]; rfl
      rw [w2, w4]
      by_cases ce1 : 0 ≤ e
      · have ce2 : ¬ e < (t.eyes.length : Int) := by omega
        simp -implicitDefEqProofs (maxSteps := 999999) (disch := first | with_reducible rfl | omega | (simp only [nA, nS, nD] <;> omega) | fail) only [go_sem, t1, t2, t3, t7, t8, t9, t10, t11, t13, t14, t15, s7A.cells c8, s7B.cells c8, s7C.cells c8, q3C, hlE, ce1, ce2]
        exact ⟨_, _, y16, y17, rfl, s7C, ay16C, ay17C, (by simp [ev_c, ev_put, t1] <;> rfl), (by simp [ev_c, ev_put, t2] <;> rfl), (by simp [ev_c, ev_put, t3] <;> rfl), (by simp [ev_c, ev_put, t7] <;> rfl), (by simp [ev_c, ev_put, t9] <;> rfl), (by rw [c]; exact (by simp [ev_c, ev_put, t10] <;> rfl)), (by simp [ev_c, ev_put, t11] <;> rfl), (by simp [ev_c, ev_put] <;> rfl), (by simp [ev_c, ev_put, t13] <;> rfl), (by simp [ev_c, ev_put, t14] <;> rfl), (by simp [ev_c, ev_put, t15] <;> rfl), (by simp [ev_c, ev_put] <;> rfl), (by simp [ev_c, ev_put] <;> rfl)⟩
      · simp -implicitDefEqProofs (maxSteps := 999999) (disch := first | with_reducible rfl | omega | (simp only [nA, nS, nD] <;> omega) | fail) only [go_sem, t1, t2, t3, t7, t8, t9, t10, t11, t13, t14, t15, s7A.cells c8, s7B.cells c8, s7C.cells c8, q3C, hlE, ce1]
        exact ⟨_, _, y16, y17, rfl, s7C, ay16C, ay17C, (by simp [ev_c, ev_put, t1] <;> rfl), (by simp [ev_c, ev_put, t2] <;> rfl), (by simp [ev_c, ev_put, t3] <;> rfl), (by simp [ev_c, ev_put, t7] <;> rfl), (by simp [ev_c, ev_put, t9] <;> rfl), (by rw [c]; exact (by simp [ev_c, ev_put, t10] <;> rfl)), (by simp [ev_c, ev_put, t11] <;> rfl), (by simp [ev_c, ev_put] <;> rfl), (by simp [ev_c, ev_put, t13] <;> rfl), (by simp [ev_c, ev_put, t14] <;> rfl), (by simp [ev_c, ev_put, t15] <;> rfl), (by simp [ev_c, ev_put] <;> rfl), (by simp [ev_c, ev_put] <;> rfl)⟩
  obtain ⟨rfl, tm, h', y16, y17, rfl, sM, a16, a17, t1, t2, t3, t7, t9, t10, t11, t12, t13, t14, t15, t16, t17⟩ := hx1
  have sX := s56.trans (s67.trans sM)
  have s3M := s37.trans sM
  have ee : ∀ n : Int, decide (n = n) = true := fun n => by simp
  have bb : ∀ b : Bool, (b == b) = true := fun b => by cases b <;> rfl
  have hm := fun hh (s : h'.Sub hh) => hm7.mono (sM.trans s)
  simp -implicitDefEqProofs (maxSteps := 999999) (disch := first | with_reducible rfl | omega | (simp only [nA, nS, nD] <;> omega) | fail) only [go_sem, t1, t2, t3, t7, t9, t10, t11, t12, t13, t14, t15, t16, t17, sM.cells c7]
  refine Enough_ev sM.wf (hu0.mono sX) (hm7.mono sM) (by omega) _ fun hA sA => ?_
  simp -implicitDefEqProofs (maxSteps := 999999) (disch := first | with_reducible rfl | omega | (simp only [nA, nS, nD] <;> omega) | fail) only [go_sem, t1, t2, t3, t7, t9, t10, t11, t12, t13, t14, t15, t16, t17, (sM.trans sA).cells c7]
  refine Fewest_ev sA.wf (hu0.mono (sX.trans sA)) _ fun y21 hB sB hy1 hy2 => ?_
  have a21 : SlAt hB y21 1 ((fewL t).map encI) := by
    by_cases c : check t = 0
    · obtain ⟨cf, hcf, _⟩ := few_some t
      have := hy1 cf c hcf
      rw [show fewL t = cf by unfold fewL; rw [if_pos c, hcf]; rfl]; exact this
    · rw [hy2 c, show fewL t = [] from if_neg c]
      exact (OwnSl.nil (H.Sub.refl sB.wf) 1).sl (by simp)
  have sAB := sA.trans sB
  simp -implicitDefEqProofs (maxSteps := 999999) (disch := first | with_reducible rfl | omega | (simp only [nA, nS, nD] <;> omega) | fail) only [go_sem, t1, t2, t3, t7, t9, t10, t11, t12, t13, t14, t15, t16, t17, (sM.trans sAB).cells c7]
  refine Needed_ev sB.wf (hu0.mono (sX.trans sAB)) _ fun y23 hC sC a23 => ?_
  have sAC := sAB.trans sC
  simp -implicitDefEqProofs (maxSteps := 999999) (disch := first | with_reducible rfl | omega | (simp only [nA, nS, nD] <;> omega) | fail) only [go_sem, t1, t2, t3, t7, t9, t10, t11, t12, t13, t14, t15, t16, t17, (sM.trans sAC).cells c7]
  refine Witness_ev sC.wf (hu0.mono (sX.trans sAC)) e _ fun hD sD => ?_
  have sAD := sAC.trans sD
  have e1 := fun R => eqInt_ev (a21.mono (sC.trans sD)) (a16.mono sAD) R
  have e2 := fun R => eqInt_ev (l := needL t) (a23.mono sD) (a17.mono sAD) R
  have e3 := fun hh (ss : hD.Sub hh) R => eqInt_ev (hm7.mono (sM.trans (sAD.trans ss))) (hx7.mono (sM.trans (sAD.trans ss))) R
  simp only [decide_eq_true rfl] at e1 e2 e3
  simp -implicitDefEqProofs (maxSteps := 999999) (disch := first | with_reducible rfl | omega | (simp only [nA, nS, nD] <;> omega) | fail) only [go_sem, t1, t2, t3, t7, t9, t10, t11, t12, t13, t14, t15, t16, t17, ee, bb, e1, e2, (sM.trans sAD).cells c7, (s3M.trans sAD).cells q3]
  refine same_ev sD.wf (hu0.mono (sX.trans sAD)) (ht0.mono (s3.trans (s3M.trans sAD))) _ fun hE sE => ?_
  rw [decide_eq_true rfl]
  have e3E := fun R => e3 hE sE R
  simp -implicitDefEqProofs (maxSteps := 999999) (disch := first | with_reducible rfl | omega | (simp only [nA, nS, nD] <;> omega) | fail) only [go_sem, t1, t2, t3, t7, t9, t10, t11, t12, t13, t14, t15, t16, t17, e3E, awake_eq]
end Go.Ab.Tryz
