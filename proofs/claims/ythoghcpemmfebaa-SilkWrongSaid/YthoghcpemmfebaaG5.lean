/- The law SilkWrong, on our machine. Numbers that are wound off bytes: the contracts of Spool. What lots really weigh, made from the last one to the first: the plain part. Shares by kind: shares, Where. Tables by kind: the plain part. Made. Read, Weighed. The reference's table. Where, and that of the reference. Kinds together: the plain part of SilkParted. The law SilkParted, on our machine. What is told as wrong, and what clashes: plain Lean (SilkWrong). Order of a spool; rows that are stored. slices.IsSorted, slices.Delete. -/
import Derived.Test.YthoghcpemmfebaaG2
import Derived.Test.YthoghcpemmfebaaAc7
import Derived.Test.YthoghcpemmfebaaG4
import Derived.Test.YthoghcpemmfebaaPa6
set_option linter.unusedSimpArgs false
set_option linter.unusedVariables false
namespace Go.Ab
theorem q_shr_3 (a : Int) : q_sh .shr (.int .u64 a) (.int .u64 3) = some (.int .u64 (a.fdiv (2 ^ (min 3 IntKind.u64.bits)))) := rfl
theorem q_shr_19 (a : Int) : q_sh .shr (.int .u64 a) (.int .u64 19) = some (.int .u64 (a.fdiv (2 ^ (min 19 IntKind.u64.bits)))) := rfl
def xorI (k : IntKind) (a b : Int) : Int := k.wrap (BitVec.ofInt k.bits a ^^^ BitVec.ofInt k.bits b).toNat
def andI (k : IntKind) (a b : Int) : Int := k.wrap (BitVec.ofInt k.bits a &&& BitVec.ofInt k.bits b).toNat
theorem q_ar_xor (k : IntKind) (a b : Int) : q_ar .xor (.int k a) (.int k b) = some (.int k (xorI k a b)) := by simp [q_ar, arith, xorV, vi, xorI]
theorem q_ar_and (k : IntKind) (a b : Int) : q_ar .and (.int k a) (.int k b) = some (.int k (andI k a b)) := by simp [q_ar, arith, andV, vi, andI]
theorem and_bd (a : Int) : 0 ≤ andI .i64 a 65535 ∧ andI .i64 a 65535 ≤ 65535 := by
  have h : (BitVec.ofInt IntKind.i64.bits a &&& BitVec.ofInt IntKind.i64.bits 65535).toNat ≤ 65535 := by
    rw [BitVec.toNat_and]
    exact Nat.le_trans Nat.and_le_right (by decide)
  unfold andI
  rw [← wr_eq, wr_in (by omega) (by omega)]
  omega
namespace Try
def encU8 (n : Int) : List V := [.int .u8 n]
def SpAt (h : H) (p : Nat) (x : V) (T : Int) : Prop := ∃ st, h.get p = some (.cells .rw [x, .int .i64 T, .int .u64 st])
theorem SpAt.mono {h h' : H} {p : Nat} {x : V} {T : Int} (a : SpAt h p x T) (hs : h.Sub h') : SpAt h' p x T := by
  obtain ⟨st, a⟩ := a
  exact ⟨st, hs.get a⟩
theorem SpAt.keep {h h' : H} {p : Nat} {x : V} {T : Int} {S : Nat → Prop} (a : SpAt h p x T) (k : Keeps S h h') (n : ¬ S p) : SpAt h' p x T := by
  obtain ⟨st, a⟩ := a
  exact ⟨st, k.2 _ _ a n⟩
set_option maxHeartbeats 1000000 in
theorem turn_ev {h0 h : H} {p : Nat} {x : V} {bs : List Int} {T : Int} (hs : h0.Sub h) (hw0 : h0.wf) (hx : SlAt h0 x 1 (bs.map encU8)) (hp0 : h0.next ≤ p) (hp : SpAt h p x T) (hT : 0 ≤ T ∧ T ≤ 1000000000) (Q : V → H → Prop)
    (q : ∀ r h', 0 ≤ r → r ≤ 65535 → h0.Sub h' → SpAt h' p x (T + 1) → Keeps (fun b => b = p) h h' → h'.next = h.next → Q (.int .i64 r) h') : Ev fnG fastA (.fn 109 [] []) [.ptr p 0] h Q := by
  obtain ⟨st, hp⟩ := hp
  have hw := hs.wf
  have hlp := hw _ _ hp
  have hx1 := hx.one
  have hlen := hx.lenE
  have hc := cells_of hp
  refine Ev_body (fd := c109) rfl rfl rfl ?_
  have fin : ∀ (st' : Int) (r : Int), 0 ≤ r → r ≤ 65535 → Q (.int .i64 r) (h.set p (.cells .rw [x, .int .i64 (T + 1), .int .u64 st'])) := fun st' r r0 r1 =>
    q r _ r0 r1 (hs.set hp0 hlp hw0 _) ⟨st', get_set_same rfl⟩ (Keeps.set _ _ _) (H.next_set _ _ _)
  by_cases h1 : 0 < (bs.length : Int)
  · have hT0 : 0 ≤ T.tmod (bs.length : Int) := Int.tmod_nonneg _ hT.1
    have hT1 : T.tmod (bs.length : Int) < (bs.length : Int) := Int.tmod_lt_of_pos _ h1
    obtain ⟨i, ei⟩ := Int.eq_ofNat_of_zero_le hT0
    have hi : i < bs.length := by omega
    obtain ⟨b2, o2, c2, cs2, e2, hcs2, hq2, hgg2, hn2, hn02⟩ := (hx.mono hs).at hi
    have v2 := hn02 (by omega)
    simp only [encU8] at v2
    have hbb : b2 ≠ p := by
      have := SlAt_lt hw0 hx (by intro e; rw [List.map_eq_nil_iff] at e; rw [e] at hi; simp at hi) b2 ⟨_, _, _, e2⟩
      omega
    have hne : ¬ (bs.length : Int) = 0 := by omega
    by_cases h2 : (bs.length : Int) < T + 1
    · simp -implicitDefEqProofs (maxSteps := 999999) (disch := first | with_reducible rfl | omega | (simp only [nA, nS, nD] <;> omega) | fail) only [c109, go_sem, hc, hlen, h1, q_ar_rem .i64 hne, ei, hq2 (nat_cst i), hcs2, v2, hp, wr_in, h2, hx1, q_shr_3, q_shr_19, q_ar_xor, q_ar_and]
      exact fin _ _ (and_bd _).1 (and_bd _).2
    · simp -implicitDefEqProofs (maxSteps := 999999) (disch := first | with_reducible rfl | omega | (simp only [nA, nS, nD] <;> omega) | fail) only [c109, go_sem, hc, hlen, h1, q_ar_rem .i64 hne, ei, hq2 (nat_cst i), hcs2, v2, hp, wr_in, h2, hx1, q_shr_3, q_shr_19, q_ar_xor, q_ar_and]
      exact fin _ _ (and_bd _).1 (and_bd _).2
  · by_cases h2 : (bs.length : Int) < T + 1
    · simp -implicitDefEqProofs (maxSteps := 999999) (disch := first | with_reducible rfl | omega | (simp only [nA, nS, nD] <;> omega) | fail) only [c109, go_sem, hc, hlen, h1, hp, wr_in, h2, hx1, q_shr_3, q_shr_19, q_ar_xor, q_ar_and]
      exact fin _ _ (and_bd _).1 (and_bd _).2
    · omega
theorem Upto_ev {h0 h : H} {p : Nat} {x : V} {bs : List Int} {T : Int} (hs : h0.Sub h) (hw0 : h0.wf) (hx : SlAt h0 x 1 (bs.map encU8)) (hp0 : h0.next ≤ p) (hp : SpAt h p x T) (hT : 0 ≤ T ∧ T ≤ 1000000000) {n : Int} (hn : -1000000000 ≤ n ∧ n ≤ 1000000000) (Q : V → H → Prop)
    (q : ∀ r h', 0 ≤ r → r ≤ max 0 n → h0.Sub h' → SpAt h' p x (T + 1) → Keeps (fun b => b = p) h h' → h'.next = h.next → Q (.int .i64 r) h') : Ev fnG fastA (.fn 49 [] []) [.ptr p 0, .int .i64 n] h Q := by
  refine Ev_body (fd := c49) rfl rfl rfl ?_
  simp -implicitDefEqProofs (maxSteps := 999999) (disch := first | with_reducible rfl | omega | (simp only [nA, nS, nD] <;> omega) | fail) only [c49, go_sem]
  refine turn_ev hs hw0 hx hp0 hp hT _ fun r h' r0 r1 s' p' k' n' => ?_
  have hm : ¬ max 1 (n + 1) = 0 := by omega
  have e0 : 0 ≤ r.tmod (max 1 (n + 1)) := Int.tmod_nonneg _ r0
  have e1 : r.tmod (max 1 (n + 1)) < max 1 (n + 1) := Int.tmod_lt_of_pos _ (by omega)
  simp -implicitDefEqProofs (maxSteps := 999999) (disch := first | with_reducible rfl | omega | (simp only [nA, nS, nD] <;> omega) | fail) only [go_sem, wr_in, q_ar_rem .i64 hm]
  exact q _ _ e0 (by omega) s' p' k' n'
theorem From_ev {h0 h : H} {p : Nat} {x : V} {bs : List Int} {T : Int} (hs : h0.Sub h) (hw0 : h0.wf) (hx : SlAt h0 x 1 (bs.map encU8)) (hp0 : h0.next ≤ p) (hp : SpAt h p x T) (hT : 0 ≤ T ∧ T ≤ 1000000000) {lo hi : Int} (hlo : -1000000 ≤ lo ∧ lo ≤ 1000000) (hhi : -1000000 ≤ hi ∧ hi ≤ 1000000) (Q : V → H → Prop)
    (q : ∀ r h', lo ≤ r → r ≤ max lo hi → h0.Sub h' → SpAt h' p x (T + 1) → Keeps (fun b => b = p) h h' → h'.next = h.next → Q (.int .i64 r) h') : Ev fnG fastA (.fn 52 [] []) [.ptr p 0, .int .i64 lo, .int .i64 hi] h Q := by
  refine Ev_body (fd := c52) rfl rfl rfl ?_
  simp -implicitDefEqProofs (maxSteps := 999999) (disch := first | with_reducible rfl | omega | (simp only [nA, nS, nD] <;> omega) | fail) only [c52, go_sem, wr_in]
  refine Upto_ev hs hw0 hx hp0 hp hT (by omega) _ fun r h' r0 r1 s' p' k' n' => ?_
  simp -implicitDefEqProofs (maxSteps := 999999) (disch := first | with_reducible rfl | omega | (simp only [nA, nS, nD] <;> omega) | fail) only [go_sem, wr_in]
  exact q _ _ (by omega) (by omega) s' p' k' n'
theorem Once_ev {h0 h : H} {p : Nat} {x : V} {bs : List Int} {T : Int} (hs : h0.Sub h) (hw0 : h0.wf) (hx : SlAt h0 x 1 (bs.map encU8)) (hp0 : h0.next ≤ p) (hp : SpAt h p x T) (hT : 0 ≤ T ∧ T ≤ 1000000000) {n : Int} (hn : 0 ≤ n ∧ n ≤ 1000000) (Q : V → H → Prop)
    (q : ∀ t h', h0.Sub h' → SpAt h' p x (T + 1) → Keeps (fun b => b = p) h h' → h'.next = h.next → Q (.bool t) h') : Ev fnG fastA (.fn 59 [] []) [.ptr p 0, .int .i64 n] h Q := by
  refine Ev_body (fd := c59) rfl rfl rfl ?_
  simp -implicitDefEqProofs (maxSteps := 999999) (disch := first | with_reducible rfl | omega | (simp only [nA, nS, nD] <;> omega) | fail) only [c59, go_sem, wr_in]
  refine Upto_ev hs hw0 hx hp0 hp hT (by omega) _ fun r h' r0 r1 s' p' k' n' => ?_
  simp -implicitDefEqProofs (maxSteps := 999999) (disch := first | with_reducible rfl | omega | (simp only [nA, nS, nD] <;> omega) | fail) only [go_sem]
  exact q _ _ s' p' k' n'
theorem Wound_ev {h : H} {x : V} {bs : List Int} (hw : h.wf) (hx : SlAt h x 1 (bs.map encU8)) (Q : V → H → Prop) (q : ∀ h', h.Sub h' → SpAt h' h.next x 0 → h'.next = h.next + 1 → Q (.ptr h.next 0) h') : Ev fnG fastA (.fn 32 [] []) [x] h Q := by
  have hx1 := hx.one
  refine Ev_body (fd := c32) rfl rfl rfl ?_
  simp -implicitDefEqProofs (maxSteps := 999999) (disch := first | with_reducible rfl | omega | (simp only [nA, nS, nD] <;> omega) | fail) only [c32, go_sem, hx.lenE, hx1, cells_one hx1]
  exact q _ ((H.Sub.refl hw).add _) ⟨_, get_add_new rfl⟩ (H.next_add _ _)
end Try
end Go.Ab
set_option linter.unusedSimpArgs false
set_option linter.unusedVariables false
namespace Go.Ab.Try
open Go.Ab.Silk
def LotsOk (l : List Lt) : Prop := ∀ j (hj : j < l.length), (-1 ≤ l[j].frm ∧ l[j].frm ≤ (j : Int) - 1) ∧ (0 ≤ l[j].kind ∧ l[j].kind ≤ 3)
theorem LotsOk.nil : LotsOk [] := fun j hj => by simp at hj
theorem LotsOk.snoc {l : List Lt} (h : LotsOk l) {f k : Int} (h1 : -1 ≤ f ∧ f ≤ (l.length : Int) - 1) (h2 : 0 ≤ k ∧ k ≤ 3) : LotsOk (l ++ [⟨f, k⟩]) := fun j hj => by
  by_cases e : j < l.length
  · rw [List.getElem_append_left e]; exact h j e
  · have : j = l.length := by simp at hj; omega
    subst this
    simp; exact ⟨h1, h2⟩
theorem good_made {e : Int} {l : List Lt} (he : 0 ≤ e ∧ e ≤ 50) (h1 : 1 ≤ l.length ∧ l.length ≤ 12) (h : LotsOk l) : Good ⟨e, l, []⟩ :=
  ⟨h1, by simp, he, by simp, fun a ha => by
    obtain ⟨j, hj, rfl⟩ := List.getElem_of_mem ha
    exact (h j hj).2, fun i hi => (h i hi).1, by simp, by simp⟩
def allL (n : Nat) : List Int := (List.range n).map fun (k : Nat) => (k : Int)
theorem mem_allL {n : Nat} {i : Int} : i ∈ allL n ↔ 0 ≤ i ∧ i < n := by
  unfold allL
  rw [List.mem_map]
  constructor
  · rintro ⟨k, hk, rfl⟩
    have := List.mem_range.1 hk; omega
  · rintro ⟨h0, h1⟩
    exact ⟨i.toNat, List.mem_range.2 (by omega), by omega⟩
theorem allL_nodup (n : Nat) : (allL n).Nodup := by
  unfold allL List.Nodup
  rw [List.pairwise_map]
  exact List.nodup_range.imp fun h e => h (by omega)
def potG (m : Ml) (r : Int → Int) (i : Int) : Int → Int := fun j => if j ≤ i ∨ frmAt m j < 0 then r j else 0
def pot (m : Ml) (r : Int → Int) (i : Int) : Int := sumL (potG m r i) (allL m.lots.length)
structure RealI (m : Ml) (D i : Int) (r : Int → Int) : Prop where
  node : ∀ j : Int, i < j → j < m.lots.length → parts m j ≠ [] → r j = sumL r (parts m j)
  acc : ∀ j : Int, 0 ≤ j → j ≤ i → r j = sumL r ((parts m j).filter fun q => decide (i < q))
  nn : ∀ j : Int, 0 ≤ j → j < m.lots.length → 0 ≤ r j
  lim : pot m r i ≤ D * ((m.lots.length : Int) - 1 - i)
section
variable {m : Ml} {D : Int}
theorem RealI.start (g : Good m) : RealI m D ((m.lots.length : Int) - 1) fun _ => 0 := by
  have z : ∀ l : List Int, sumL (fun _ => (0 : Int)) l = 0 := fun l => by
    induction l with
    | nil => rfl
    | cons a l ih => simp only [sumL, ih]; omega
  refine ⟨fun j h1 h2 => by omega, fun j _ _ => (z _).symm, fun j _ _ => Int.le_refl _, ?_⟩
  have e : pot m (fun _ => 0) ((m.lots.length : Int) - 1) = 0 := by
    unfold pot
    rw [sumL_congr (y := fun _ => 0) fun p _ => by unfold potG; split <;> rfl]
    exact z _
  rw [e]
  have : (m.lots.length : Int) - 1 - ((m.lots.length : Int) - 1) = 0 := by omega
  rw [this]; omega
theorem sumL_filter (x : Int → Int) {i : Int} : ∀ {l : List Int}, l.Nodup → sumL x (l.filter fun q => decide (i - 1 < q)) = sumL x (l.filter fun q => decide (i < q)) + (if i ∈ l then x i else 0)
  | [], _ => by simp [sumL]
  | a :: l, h => by
    rw [List.nodup_cons] at h
    have ih := sumL_filter x (i := i) h.2
    simp only [List.filter_cons, List.mem_cons]
    by_cases e : i = a
    · subst e
      have h1 : decide (i - 1 < i) = true := by rw [decide_eq_true_eq]; omega
      have h2 : decide (i < i) = false := by rw [decide_eq_false_iff_not]; omega
      rw [if_neg h.1] at ih
      simp only [h1, h2, if_true, Bool.false_eq_true, if_false, true_or, sumL, ih]
      omega
    · have h3 : decide (i - 1 < a) = decide (i < a) := by
        by_cases c : i < a
        · rw [decide_eq_true c, decide_eq_true (by omega)]
        · rw [decide_eq_false c, decide_eq_false (by omega)]
      rw [h3]
      simp only [e, false_or]
      by_cases c : i < a
      · simp only [decide_eq_true c, if_true, sumL, ih]; omega
      · simp only [decide_eq_false c, Bool.false_eq_true, if_false, ih]
theorem potG_nn {r : Int → Int} (h : ∀ j : Int, 0 ≤ j → j < m.lots.length → 0 ≤ r j) (i : Int) : ∀ j ∈ allL m.lots.length, 0 ≤ potG m r i j := fun j hj => by
  have := mem_allL.1 hj
  unfold potG; split
  · exact h j this.1 this.2
  · exact Int.le_refl _
theorem sumL_ge' {x : Int → Int} {p : Int} {l : List Int} (h : ∀ p ∈ l, 0 ≤ x p) (hp : p ∈ l) : x p ≤ sumL x l := by
  induction l with
  | nil => simp at hp
  | cons a l ih =>
    have h0 := h a (by simp)
    have h1 := sumL_nonneg (x := x) (l := l) fun p hp => h p (by simp [hp])
    simp only [sumL]
    rcases List.mem_cons.1 hp with rfl | hp
    · omega
    · have := ih (fun p hp => h p (by simp [hp])) hp; omega
theorem RealI.done (g : Good m) {i : Int} {r : Int → Int} (h : RealI m D i r) (i0 : 0 ≤ i) (i1 : i < m.lots.length) {d : Int} (hd : 0 ≤ d ∧ d ≤ D) {r1 : Int → Int} (e1 : r1 = if parts m i = [] then up1 r i d else r) :
    (∀ j : Int, j ≠ i → r1 j = r j) ∧ (∀ j : Int, 0 ≤ j → j < m.lots.length → 0 ≤ r1 j) ∧ (parts m i ≠ [] → r1 i = sumL r1 (parts m i)) ∧ pot m r1 i ≤ D * ((m.lots.length : Int) - i) := by
  have F := forest g
  have hl : D * ((m.lots.length : Int) - i) = D * ((m.lots.length : Int) - 1 - i) + D := by
    rw [show (m.lots.length : Int) - i = ((m.lots.length : Int) - 1 - i) + 1 by omega, Int.mul_add, Int.mul_one]
  have hlim := h.lim
  have hacc := h.acc i i0 (Int.le_refl _)
  by_cases hp : parts m i = []
  · rw [if_pos hp] at e1
    have hz : r i = 0 := by rw [hacc, hp]; rfl
    subst e1
    refine ⟨fun j hj => up1_ne r d hj, fun j j0 j1 => ?_, fun hn => absurd hp hn, ?_⟩
    · by_cases e : j = i
      · subst e; rw [up1_same]; exact hd.1
      · rw [up1_ne r d e]; exact h.nn j j0 j1
    · have e2 : potG m (up1 r i d) i = up1 (potG m r i) i d := by
        funext j
        unfold potG up1
        by_cases e : j = i
        · subst e; simp
        · simp [e]
      unfold pot
      rw [e2, sumL_up1 (allL_nodup _) (mem_allL.2 ⟨i0, i1⟩)]
      have : potG m r i i = 0 := by unfold potG; rw [if_pos (.inl (Int.le_refl _)), hz]
      unfold pot at hlim
      omega
  · rw [if_neg hp] at e1
    subst e1
    refine ⟨fun j _ => rfl, h.nn, fun _ => ?_, by omega⟩
    rw [hacc, List.filter_eq_self.2 fun q hq => ?_]
    obtain ⟨q0, q1, qf⟩ := (F.mem _ _).1 hq
    have := F.lt q q0 q1
    rw [decide_eq_true_eq]; omega
theorem sum_two {x : Int → Int} {a b : Int} {l : List Int} (hn : l.Nodup) (h : ∀ p ∈ l, 0 ≤ x p) (ha : a ∈ l) (hb : b ∈ l) (hab : a ≠ b) : x a + x b ≤ sumL x l := by
  have e := sumL_up1 (x := x) (v := 0) hn ha
  have h2 := sumL_ge' (x := up1 x a 0) (l := l) (fun p hp => by
      by_cases c : p = a
      · subst c; rw [up1_same]; exact Int.le_refl _
      · rw [up1_ne x 0 c]; exact h p hp) hb
  rw [up1_ne x 0 (Ne.symm hab)] at h2
  omega
theorem RealI.push (g : Good m) {i : Int} {r : Int → Int} (h : RealI m D i r) (i0 : 0 ≤ i) (i1 : i < m.lots.length) {d : Int} (hd : 0 ≤ d ∧ d ≤ D) {r1 r2 : Int → Int} (e1 : r1 = if parts m i = [] then up1 r i d else r)
    (e2 : r2 = if frmAt m i = -1 then r1 else up1 r1 (frmAt m i) (r1 (frmAt m i) + r1 i)) : RealI m D (i - 1) r2 ∧ (frmAt m i ≠ -1 → 0 ≤ r1 (frmAt m i) ∧ 0 ≤ r1 i ∧ r1 (frmAt m i) + r1 i ≤ D * ((m.lots.length : Int) - i)) := by
  have F := forest g
  obtain ⟨d1, d2, d3, d4⟩ := h.done g i0 i1 hd e1
  have hf := F.lt i i0 i1
  have hl : (m.lots.length : Int) - 1 - (i - 1) = (m.lots.length : Int) - i := by omega
  have hlow := frmAt_lt g i0 i1
  have acc1 : ∀ j : Int, 0 ≤ j → j ≤ i - 1 → r1 j = sumL r1 ((parts m j).filter fun q => decide (i < q)) := fun j j0 j1 => by
    rw [d1 j (by omega), h.acc j j0 (by omega)]
    refine sumL_congr fun q hq => (d1 q ?_).symm
    have := (List.mem_filter.1 hq).2
    rw [decide_eq_true_eq] at this; omega
  have node1 : ∀ j : Int, i - 1 < j → j < m.lots.length → parts m j ≠ [] → r1 j = sumL r1 (parts m j) := fun j j0 j1 hp => by
    by_cases e : j = i
    · subst e; exact d3 hp
    · rw [d1 j e, h.node j (by omega) j1 hp]
      refine sumL_congr fun q hq => (d1 q ?_).symm
      obtain ⟨q0, q1, qf⟩ := (F.mem _ _).1 hq
      have := F.lt q q0 q1
      omega
  by_cases hr : frmAt m i = -1
  · rw [if_pos hr] at e2
    subst e2
    refine ⟨⟨node1, fun j j0 j1 => ?_, d2, ?_⟩, fun h => absurd hr h⟩
    · rw [sumL_filter r2 (F.nodup j), if_neg fun hm => by
        obtain ⟨_, _, qf⟩ := (F.mem _ _).1 hm
        omega, Int.add_zero]
      exact acc1 j j0 j1
    · rw [hl]
      have e3 : pot m r2 (i - 1) = pot m r2 i := by
        unfold pot
        refine sumL_congr fun j hj => ?_
        unfold potG
        by_cases e : j = i
        · subst e; rw [if_pos (.inr (by omega)), if_pos (.inl (Int.le_refl _))]
        · by_cases c : j ≤ i - 1 ∨ frmAt m j < 0
          · rw [if_pos c, if_pos (by omega)]
          · rw [if_neg c, if_neg (by omega)]
      rw [e3]; exact d4
  · rw [if_neg hr] at e2
    obtain ⟨f, ef⟩ : ∃ f, frmAt m i = f := ⟨_, rfl⟩
    rw [ef] at e2 hf hr hlow
    have f0 : 0 ≤ f := by omega
    have f1 : f < m.lots.length := by omega
    have hin : i ∈ parts m f := (F.mem _ _).2 ⟨i0, i1, ef⟩
    have hsum : r1 f + r1 i ≤ pot m r1 i := by
      have := sum_two (x := potG m r1 i) (a := f) (b := i) (allL_nodup _) (potG_nn d2 i) (mem_allL.2 ⟨f0, f1⟩) (mem_allL.2 ⟨i0, i1⟩) (by omega)
      unfold potG at this
      rw [if_pos (.inl (by omega)), if_pos (.inl (Int.le_refl _))] at this
      exact this
    rw [ef]
    refine ⟨?_, fun _ => ⟨d2 f f0 f1, d2 i i0 i1, by omega⟩⟩
    subst e2
    have oth : ∀ j : Int, j ≠ f → up1 r1 f (r1 f + r1 i) j = r1 j := fun j hj => up1_ne _ _ hj
    refine ⟨fun j j0 j1 hp => ?_, fun j j0 j1 => ?_, fun j j0 j1 => ?_, ?_⟩
    · rw [oth j (by omega), node1 j j0 j1 hp]
      refine sumL_congr fun q hq => (oth q ?_).symm
      obtain ⟨q0, q1, qf⟩ := (F.mem _ _).1 hq
      have := F.lt q q0 q1
      omega
    · have e4 : sumL (up1 r1 f (r1 f + r1 i)) ((parts m j).filter fun q => decide (i - 1 < q)) = sumL r1 ((parts m j).filter fun q => decide (i - 1 < q)) := by
        refine sumL_congr fun q hq => oth q ?_
        have := (List.mem_filter.1 hq).2
        rw [decide_eq_true_eq] at this; omega
      rw [e4, sumL_filter r1 (F.nodup j), ← acc1 j j0 j1]
      by_cases e : j = f
      · subst e; rw [up1_same, if_pos hin]
      · rw [oth j e, if_neg fun hm => by
          obtain ⟨_, _, qf⟩ := (F.mem _ _).1 hm
          omega, Int.add_zero]
    · by_cases e : j = f
      · subst e; rw [up1_same]
        have := d2 j j0 j1
        have := d2 i i0 i1
        omega
      · rw [oth j e]; exact d2 j j0 j1
    · rw [hl]
      have e3 : potG m (up1 r1 f (r1 f + r1 i)) (i - 1) = up1 (up1 (potG m r1 i) f (potG m r1 i f + r1 i)) i 0 := by
        funext j
        unfold potG up1
        by_cases e : j = i
        · subst e
          rw [if_neg (by omega)]; simp
        · by_cases c : j = f
          · subst c; rw [if_pos (.inl (by omega))]; simp [e]; omega
          · simp only [e, c, if_false]
            by_cases k : j ≤ i - 1 ∨ frmAt m j < 0
            · rw [if_pos k, if_pos (by omega)]
            · rw [if_neg k, if_neg (by omega)]
      unfold pot at d4 ⊢
      rw [e3, sumL_up1 (allL_nodup _) (mem_allL.2 ⟨i0, i1⟩), sumL_up1 (allL_nodup _) (mem_allL.2 ⟨f0, f1⟩), up1_ne _ _ (by omega)]
      have : potG m r1 i i = r1 i := by unfold potG; rw [if_pos (.inl (Int.le_refl _))]
      omega
theorem RealI.last (g : Good m) {r : Int → Int} (h : RealI m D (-1) r) (hD : 0 ≤ D) : (∀ j : Int, 0 ≤ j → j < m.lots.length → 0 ≤ r j ∧ r j ≤ 12 * D) ∧ ∀ j : Int, 0 ≤ j → j < m.lots.length → parts m j ≠ [] → r j = sumL r (parts m j) := by
  have F := forest g
  have gl := g.lots
  have hlim := h.lim
  have hl : D * ((m.lots.length : Int) - 1 - -1) ≤ D * 12 := Int.mul_le_mul_of_nonneg_left (by omega) hD
  have hup : ∀ (k : Nat) (j : Int), j < k → 0 ≤ j → j < m.lots.length → r j ≤ 12 * D := by
    intro k
    induction k with
    | zero => intro j h1 h2; omega
    | succ k ih =>
      intro j hj j0 j1
      have hf := F.lt j j0 j1
      by_cases c : frmAt m j < 0
      · have := sumL_ge' (x := potG m r (-1)) (potG_nn h.nn (-1)) (mem_allL.2 ⟨j0, j1⟩)
        unfold potG at this
        rw [if_pos (.inr c)] at this
        unfold pot potG at hlim
        omega
      · have hin : j ∈ parts m (frmAt m j) := (F.mem _ _).2 ⟨j0, j1, rfl⟩
        have h1 := ih (frmAt m j) (by omega) (by omega) (by omega)
        rw [h.node (frmAt m j) (by omega) (by omega) (fun e => by rw [e] at hin; simp at hin)] at h1
        have := sumL_ge' (x := r) (l := parts m (frmAt m j)) (fun q hq => by
          obtain ⟨q0, q1, _⟩ := (F.mem _ _).1 hq
          exact h.nn q q0 q1) hin
        omega
  exact ⟨fun j j0 j1 => ⟨h.nn j j0 j1, hup m.lots.length j j1 j0 j1⟩, fun j j0 j1 hp => h.node j (by omega) j1 hp⟩
end
end Go.Ab.Try
set_option linter.unusedSimpArgs false
set_option linter.unusedVariables false
namespace Go.Ab.Try
open Go.Ab.Silk
end Go.Ab.Try
set_option linter.unusedSimpArgs false
set_option linter.unusedVariables false
namespace Go.Ab.Try
open Go.Ab.Silk
def tab (f : Int → Int) (n : Nat) : List V := (List.range n).map fun (i : Nat) => iv (f (i : Int))
def fset (f : Int → Int) (i x : Int) : Int → Int := fun k => if k = i then x else f k
theorem tab_len (f : Int → Int) (n : Nat) : (tab f n).length = n := by simp [tab]
theorem tab_nth (f : Int → Int) {n i : Nat} (h : i < n) : nth i (tab f n) = some (.int .i64 (f (i : Int))) := by
  rw [nth_get, List.getElem?_eq_getElem (by rw [tab_len]; exact h)]
  simp [tab, iv]
theorem ints_put : ∀ (l : List Int) (i : Nat) (x : Int), i < l.length → putN i [.int .i64 x] (l.map iv) = some ((l.set i x).map iv)
  | [], i, b, h => by simp at h
  | a :: l, 0, b, _ => by simp [putN_0, over_s, over_0, consV_some, iv]
  | a :: l, i + 1, b, h => by
    have ih := ints_put l i b (by simpa using h)
    simp only [List.map_cons, putN_s, ih, consV_some, List.set_cons_succ]
theorem tab_put (f : Int → Int) {n i : Nat} (h : i < n) (x : Int) : putN i [.int .i64 x] (tab f n) = some (tab (fset f (i : Int) x) n) := by
  have e : ∀ g : Int → Int, tab g n = ((List.range n).map fun (i : Nat) => g (i : Int)).map iv := fun g => by simp [tab]
  rw [e, e, ints_put _ _ _ (by simpa using h)]
  congr 2
  refine List.ext_getElem (by simp) fun k h1 h2 => ?_
  rw [List.getElem_set]
  simp only [List.getElem_map, List.getElem_range, fset]
  by_cases c : i = k
  · subst c; simp
  · rw [if_neg c, if_neg (by omega)]
theorem tab_zero : ∀ n : Nat, repN n [V.int .i64 0] = tab (fun _ => 0) n := fun n => by
  have : ∀ n, repN n [V.int .i64 0] = List.replicate n (iv 0) := fun n => by
    induction n with
    | zero => rfl
    | succ n ih => rw [repN, appN_eq, ih]; rfl
  rw [this]
  refine List.ext_getElem (by simp [tab]) fun k h1 h2 => ?_
  simp [tab]
section
variable {m : Ml} {kind : Int}
end
end Go.Ab.Try
set_option linter.unusedSimpArgs false
set_option linter.unusedVariables false
namespace Go.Ab
theorem Keeps.new {S : Nat → Prop} {h h' : H} (hw : h.wf) (k : Keeps (fun c => S c ∨ h.next ≤ c) h h') : Keeps S h h' := ⟨k.1, fun c y e n => k.2 c y e fun hs => hs.elim n fun hge => by have := hw c y e; omega⟩
namespace Try
open Go.Ab.Silk
theorem whole_iff {m : Ml} {lot : Int} : (m.lots.any fun l => decide (l.frm = lot)) = !decide (parts m lot = []) := by
  have e : (∃ a ∈ m.lots, a.frm = lot) ↔ ¬ parts m lot = [] := by
    constructor
    · rintro ⟨a, ha, e⟩ h
      obtain ⟨j, hj, rfl⟩ := List.getElem_of_mem ha
      have : ((j : Nat) : Int) ∈ parts m lot := mem_partsL.2 ⟨j, hj, by simp, e⟩
      rw [h] at this; simp at this
    · intro h
      obtain ⟨p, hp⟩ := List.exists_mem_of_ne_nil _ h
      obtain ⟨j, hj, _, e⟩ := mem_partsL.1 hp
      exact ⟨_, List.getElem_mem hj, e⟩
  rw [Bool.eq_iff_iff, List.any_eq_true]
  simp only [decide_eq_true_eq, Bool.not_eq_true', decide_eq_false_iff_not]
  exact e
theorem tab_at2 {n i : Nat} (h : i < n) (f : Int → Int) : nth i (tab f n) = some (.int .i64 (f (i : Int))) := tab_nth f h
theorem tab_st2 {n i : Nat} (h : i < n) (f : Int → Int) (x : Int) : putN i [.int .i64 x] (tab f n) = some (tab (fset f (i : Int) x) n) := tab_put f h x
theorem whole_ev {h : H} {v : V} {m : Ml} (hw : h.wf) (hm : MlIs h v m) (lot : Int) (Q : V → H → Prop) (q : ∀ h', h.Sub h' → Q (.bool (decide (parts m lot = []))) h') : Ev fnG fastA (.fn 40 [] []) [v, .int .i64 lot] h Q := by
  obtain ⟨L, W, rfl, aL, aW⟩ := hm
  refine Ev_body (fd := c40) rfl rfl rfl ?_
  have s1 : h.Sub ((h.add (.cells .rw [.int .i64 m.errs, L, W])).add (.cells .rw [.int .i64 lot])) := (by repeat (first | assumption | exact H.Sub.refl (by assumption) | refine H.Sub.add ?_ _ | refine H.Sub.set ?_ (by first | omega | (simp only [H.next_add, H.next_set, H.next_del] <;> omega)) (by first | omega | (simp only [H.next_add, H.next_set, H.next_del] <;> omega)) (by assumption) _))
  simp -implicitDefEqProofs (maxSteps := 999999) (disch := first | with_reducible rfl | omega | (simp only [nA, nS, nD] <;> omega) | fail) only [c40, go_sem]
  have e1 : ((h.add (.cells .rw [.int .i64 m.errs, L, W])).add (.cells .rw [.int .i64 lot])).cells (h.next + 1) = some [.int .i64 lot] := by simp -implicitDefEqProofs (maxSteps := 999999) (disch := first | with_reducible rfl | omega | (simp only [nA, nS, nD] <;> omega) | fail) only [go_sem]
  refine (containsFuncLot_ev (p := fun l : Lt => decide (l.frm = lot)) s1.wf (aL.mono s1) fun a _ h1 hs1 => ?_).mono fun u h2 hu => ?_
  · have e2 := hs1.cells e1
    obtain ⟨_, b2⟩ := H.cells_eq e2
    have l2 := hs1.wf _ _ b2
    refine Ev.gen fun Q2 q2 => ?_
    refine Ev_body (fd := c100) rfl rfl rfl ?_
    simp -implicitDefEqProofs (maxSteps := 999999) (disch := first | with_reducible rfl | omega | (simp only [nA, nS, nD] <;> omega) | fail) only [c100, go_sem, encL, e2]
    exact q2 _ _ ⟨rfl, (H.Sub.refl hs1.wf).add _⟩
  · obtain ⟨rfl, s2⟩ := hu
    simp -implicitDefEqProofs (maxSteps := 999999) (disch := first | with_reducible rfl | omega | (simp only [nA, nS, nD] <;> omega) | fail) only [go_sem]
    have := q h2 (s1.trans s2)
    rw [whole_iff, Bool.not_not]; exact this
theorem spGet {h : H} {p : Nat} {x : V} {T : Int} (a : SpAt h p x T) : h.get p = some (.cells .rw [x, .int .i64 T, .int .u64 (Classical.choose a)]) := Classical.choose_spec a
set_option maxRecDepth 4000 in
set_option maxHeartbeats 4000000 in
theorem Made_ev {h0 h : H} {p : Nat} {x : V} {bs : List Int} {T : Int} (hs : h0.Sub h) (hw0 : h0.wf) (hx : SlAt h0 x 1 (bs.map encU8)) (hp0 : h0.next ≤ p) (hp : SpAt h p x T) (hT : 0 ≤ T ∧ T ≤ 1000000) {lots drams : Int} (hlots : 1 ≤ lots ∧ lots ≤ 12) (hdr : 0 ≤ drams ∧ drams ≤ 300) (Q : V → H → Prop)
    (q : ∀ e l r L b h' T', (0 ≤ e ∧ e ≤ 5) → (1 ≤ l.length ∧ (l.length : Int) ≤ lots) → LotsOk l → RealI ⟨e, l, []⟩ drams (-1) r → h0.Sub h' → SpAt h' p x T' → (0 ≤ T' ∧ T' ≤ T + 100) → Keeps (fun c => c = p) h h' → SlAt h' L 2 (l.map encL) → L.one = true → (∀ c, blkOf L c → c ≠ p ∧ h.next ≤ c) → h.next ≤ b → h'.get b = some (.cells .rw (tab r l.length)) →
      Q (.tup [.agg [.int .i64 e, L, .nils], .sl b 0 l.length (.fix l.length)]) h') : Ev fnG fastA (.fn 33 [] []) [.ptr p 0, .int .i64 lots, .int .i64 drams] h Q := by
  have hw := hs.wf
  have hlp := hw _ _ (spGet hp)
  refine Ev_body (fd := c33) rfl rfl rfl ?_
  have sA := (H.Sub.refl hw).add (.cells .rw [.int .i64 0, .nils, .nils])
  have gA : (h.add (.cells .rw [.int .i64 0, .nils, .nils])).get h.next = some (.cells .rw [.int .i64 0, .nils, .nils]) := get_add_new rfl
  simp -implicitDefEqProofs (maxSteps := 999999) (disch := first | with_reducible rfl | omega | (simp only [nA, nS, nD] <;> omega) | fail) only [c33, go_sem]
  refine Upto_ev (hs.trans sA) hw0 hx hp0 (hp.mono sA) (by omega) (by omega) _ fun e h1 e0 e1 s1 p1 k1 n1 => ?_
  have g1 := k1.2 _ _ gA (by omega)
  rw [H.next_add] at n1
  have sB := (H.Sub.refl s1.wf).add (.cells .rw [.int .i64 e, .nils, .nils])
  have hB : (h1.add (.cells .rw [.int .i64 e, .nils, .nils])).get (h.next + 1) = some (.cells .rw [.int .i64 e, .nils, .nils]) := get_add_new n1.symm
  simp -implicitDefEqProofs (maxSteps := 999999) (disch := first | with_reducible rfl | omega | (simp only [nA, nS, nD] <;> omega) | fail) only [go_sem, n1]
  refine From_ev (s1.trans sB) hw0 hx hp0 (p1.mono sB) (by omega) (by omega) (by omega) _ fun N h2 N0 N1 s2 p2 k2 n2 => ?_
  have g2 := k2.2 _ _ (sB.get g1) (by omega)
  have g82 := k2.2 _ _ hB (by omega)
  rw [H.next_add, n1] at n2
  obtain ⟨Nn, rfl⟩ := Int.eq_ofNat_of_zero_le (show 0 ≤ N by omega)
  have K2 : Keeps (fun c => c = p ∨ h.next ≤ c) h h2 := by
    refine ((((Keeps.of sA (fun _ => False)).trans k1).trans (Keeps.of sB (fun _ => False))).trans k2).mono ?_
    rintro c (((h | h) | h) | h)
    · exact h.elim
    · exact .inl h
    · exact h.elim
    · exact .inl h
  simp -implicitDefEqProofs (maxSteps := 999999) (disch := first | with_reducible rfl | omega | (simp only [nA, nS, nD] <;> omega) | fail) only [go_sem]
  refine W_count Nn (fun i s => ∃ tm h' L l T', s = ⟨tm, h', []⟩ ∧ h0.Sub h' ∧ OwnSl h0 h' L 2 (l.map encL) ∧ l.length = i ∧ LotsOk l ∧ SpAt h' p x T' ∧ 0 ≤ T' ∧ T' ≤ T + 2 + 3 * (i : Int) ∧ Keeps (fun c => c = p ∨ h.next ≤ c) h h' ∧ h.next + 1 < h'.next ∧ h'.get h.next = some (.cells .rw [.int .i64 0, .nils, .nils]) ∧ h'.get (h.next + 1) = some (.cells .rw [.int .i64 e, L, .nils]) ∧ (∀ b, blkOf L b → h.next ≤ b) ∧
      (Opd.t 0).ev tm = .ptr p 0 ∧ (Opd.t 2).ev tm = .int .i64 drams ∧ (Opd.t 6).ev tm = .ptr h.next 0 ∧ (Opd.t 8).ev tm = .ptr (h.next + 1) 0 ∧ (Opd.t 19).ev tm = .int .i64 (Nn : Int) ∧ (Opd.t 20).ev tm = .int .i64 (i : Int))
    ?_ ?_ (i := 0) (Nat.zero_le _) ⟨_, _, .nils, [], T + 1 + 1, rfl, s2, OwnSl.nil s2 2, rfl, LotsOk.nil, p2, by omega, by omega, K2, by omega, g2, g82, fun b hb => (blkOf_nils hb).elim, (by simp [ev_c, ev_put] <;> rfl), (by simp [ev_c, ev_put] <;> rfl), (by simp [ev_c, ev_put] <;> rfl), (by simp [ev_c, ev_put] <;> rfl), (by simp [ev_c, ev_put] <;> rfl), (by simp [ev_c, ev_put] <;> rfl)⟩
  · rintro i s hi ⟨tm, hH, L, l, T', rfl, sH, oLH, hli, hlo, pH, T0, T1, KH, lt, g6H, g8H, oLN, t0, t2, t6, t8, t19, t20⟩
    have hi' : (i : Int) < (Nn : Int) := by omega
    by_cases hi0 : 0 < (i : Int)
    · simp -implicitDefEqProofs (maxSteps := 999999) (disch := first | with_reducible rfl | omega | (simp only [nA, nS, nD] <;> omega) | fail) only [go_sem, t0, t2, t6, t8, t19, t20, hi', hi0]
      refine Once_ev sH hw0 hx hp0 pH (by omega) (by omega) _ fun t h1' s1' p1' k1' n1' => ?_
      have oL1' := oLH.keep k1' s1' fun b hb e => (oLH.ne (spGet pH)) (e ▸ hb)
      have g81' := k1'.2 _ _ g8H (by omega)
      have g61' := k1'.2 _ _ g6H (by omega)
      have K1' : Keeps (fun c => c = p ∨ h.next ≤ c) h h1' := (KH.trans k1').mono fun c hc => hc.elim id .inl
      clear pH oLH g8H g6H KH sH s1
      cases t
      · simp -implicitDefEqProofs (maxSteps := 999999) (disch := first | with_reducible rfl | omega | (simp only [nA, nS, nD] <;> omega) | fail) only [go_sem, t0, t2, t6, t8, t19, t20, Bool.not_false, wr_in]
        refine From_ev s1' hw0 hx hp0 p1' (by omega) (by omega) (by omega) _ fun f h2' f0 f1 sH pH k2' n2' => ?_
        have oLH := oL1'.keep k2' sH fun b hb e => (oL1'.ne (spGet p1')) (e ▸ hb)
        have g8H := k2'.2 _ _ g81' (by omega)
        have g6H := k2'.2 _ _ g61' (by omega)
        have KH : Keeps (fun c => c = p ∨ h.next ≤ c) h h2' := (K1'.trans k2').mono fun c hc => hc.elim id .inl
        simp -implicitDefEqProofs (maxSteps := 999999) (disch := first | with_reducible rfl | omega | (simp only [nA, nS, nD] <;> omega) | fail) only [go_sem, t0, t2, t6, t8, t19, t20, cells_of g8H]
        refine Upto_ev sH hw0 hx hp0 pH (by omega) (by omega) _ fun kd h3 kd0 kd1 s3 p3 k3 n3 => ?_
        have oL3 := oLH.keep k3 s3 fun b hb e => (oLH.ne (spGet pH)) (e ▸ hb)
        have g83 := k3.2 _ _ g8H (by omega)
        have g63 := k3.2 _ _ g6H (by omega)
        have L1 := OwnC.one oL3.c
        have sA := (H.Sub.refl s3.wf).add (.cells .rw [.int .i64 f, .int .i64 kd])
        have hll : (l.map Go.Ab.Try.encL).length ≤ 12 := by simp only [List.length_map]; omega
        simp -implicitDefEqProofs (maxSteps := 999999) (disch := first | with_reducible rfl | omega | (simp only [nA, nS, nD] <;> omega) | fail) only [go_sem, t0, t2, t6, t8, t19, t20, cells_of g8H, cells_of g83]
        refine (oL3.mono sA).app1 (r := [.int .i64 f, .int .i64 kd]) hw0 rfl (by omega) (SlAt.new _ rfl rfl rfl (by simp) (by simp)) rfl (by omega) (by omega) fun h4 o4 k4 n4 => ?_
        have g84 := k4.2 _ _ (sA.get g83) ((oL3.mono sA).ne (sA.get g83))
        have g64 := k4.2 _ _ (sA.get g63) ((oL3.mono sA).ne (sA.get g63))
        have p4 : SpAt h4 p x ((T' + 1 + 1) + 1) := (p3.mono sA).keep k4 ((oL3.mono sA).ne (spGet (p3.mono sA)))
        have l4 := k4.1
        simp only [H.next_add] at n4 o4 l4
        have z84 := cells_of g84
        have K4 : Keeps (fun c => c = p ∨ h.next ≤ c) h h4 := by
          refine (((KH.trans k3).trans (Keeps.of sA (fun _ => False))).trans k4).mono ?_
          rintro c (((h | h) | h) | h)
          · exact h
          · exact .inl h
          · exact h.elim
          · exact .inr (by have := (oLH.blk h).1; exact oLN c h)
        simp -implicitDefEqProofs (maxSteps := 999999) (disch := first | with_reducible rfl | omega | (simp only [nA, nS, nD] <;> omega) | fail) only [go_sem, t0, t2, t6, t8, t19, t20, cells_of g8H, cells_of g83, (sA.cells (cells_of g83)), z84, g84, V.one, V.cells, wr_succ]
        refine ⟨_, _, _, l ++ [⟨f, kd⟩], (T' + 1 + 1) + 1, rfl, o4.1.set (by omega) (by omega) hw0 _, ?_, by simp [hli], hlo.snoc ⟨by omega, by omega⟩ ⟨by omega, by omega⟩, p4.keep (Keeps.set _ _ _) (by omega), by omega, by omega, (K4.trans (Keeps.set _ _ _)).mono ?_, by simp only [H.next_set]; omega, by rw [get_set_other (by omega)]; exact g64, get_set_same rfl, ?_, (by simp [ev_c, ev_put, t0] <;> rfl), (by simp [ev_c, ev_put, t2] <;> rfl), (by simp [ev_c, ev_put, t6] <;> rfl), (by simp [ev_c, ev_put, t8] <;> rfl), (by simp [ev_c, ev_put, t19] <;> rfl), (by simp [ev_c, ev_put] <;> rfl)⟩
        · rw [List.map_append]
          exact o4.keep (Keeps.set h4 (h.next + 1) _) (o4.1.set (by omega) (by omega) hw0 _) fun b hb e => (o4.ne g84) (e ▸ hb)
        · rintro c (h | h)
          · exact h
          · exact .inr (by omega)
        · rintro b ⟨_, _, _, e⟩; cases e; omega
      · have sH := s1'
        have pH := p1'
        have oLH := oL1'
        have g8H := g81'
        have g6H := g61'
        have KH := K1'
        simp -implicitDefEqProofs (maxSteps := 999999) (disch := first | with_reducible rfl | omega | (simp only [nA, nS, nD] <;> omega) | fail) only [go_sem, t0, t2, t6, t8, t19, t20, Bool.not_true, cells_of g8H]
        refine Upto_ev sH hw0 hx hp0 pH (by omega) (by omega) _ fun kd h3 kd0 kd1 s3 p3 k3 n3 => ?_
        have oL3 := oLH.keep k3 s3 fun b hb e => (oLH.ne (spGet pH)) (e ▸ hb)
        have g83 := k3.2 _ _ g8H (by omega)
        have g63 := k3.2 _ _ g6H (by omega)
        have L1 := OwnC.one oL3.c
        have sA := (H.Sub.refl s3.wf).add (.cells .rw [.int .i64 (-1), .int .i64 kd])
        have hll : (l.map Go.Ab.Try.encL).length ≤ 12 := by simp only [List.length_map]; omega
        simp -implicitDefEqProofs (maxSteps := 999999) (disch := first | with_reducible rfl | omega | (simp only [nA, nS, nD] <;> omega) | fail) only [go_sem, t0, t2, t6, t8, t19, t20, cells_of g8H, cells_of g83]
        refine (oL3.mono sA).app1 (r := [.int .i64 (-1), .int .i64 kd]) hw0 rfl (by omega) (SlAt.new _ rfl rfl rfl (by simp) (by simp)) rfl (by omega) (by omega) fun h4 o4 k4 n4 => ?_
        have g84 := k4.2 _ _ (sA.get g83) ((oL3.mono sA).ne (sA.get g83))
        have g64 := k4.2 _ _ (sA.get g63) ((oL3.mono sA).ne (sA.get g63))
        have p4 : SpAt h4 p x ((T' + 1) + 1) := (p3.mono sA).keep k4 ((oL3.mono sA).ne (spGet (p3.mono sA)))
        have l4 := k4.1
        simp only [H.next_add] at n4 o4 l4
        have z84 := cells_of g84
        have K4 : Keeps (fun c => c = p ∨ h.next ≤ c) h h4 := by
          refine (((KH.trans k3).trans (Keeps.of sA (fun _ => False))).trans k4).mono ?_
          rintro c (((h | h) | h) | h)
          · exact h
          · exact .inl h
          · exact h.elim
          · exact .inr (by have := (oLH.blk h).1; exact oLN c h)
        simp -implicitDefEqProofs (maxSteps := 999999) (disch := first | with_reducible rfl | omega | (simp only [nA, nS, nD] <;> omega) | fail) only [go_sem, t0, t2, t6, t8, t19, t20, cells_of g8H, cells_of g83, (sA.cells (cells_of g83)), z84, g84, V.one, V.cells, wr_succ]
        refine ⟨_, _, _, l ++ [⟨(-1), kd⟩], (T' + 1) + 1, rfl, o4.1.set (by omega) (by omega) hw0 _, ?_, by simp [hli], hlo.snoc ⟨by omega, by omega⟩ ⟨by omega, by omega⟩, p4.keep (Keeps.set _ _ _) (by omega), by omega, by omega, (K4.trans (Keeps.set _ _ _)).mono ?_, by simp only [H.next_set]; omega, by rw [get_set_other (by omega)]; exact g64, get_set_same rfl, ?_, (by simp [ev_c, ev_put, t0] <;> rfl), (by simp [ev_c, ev_put, t2] <;> rfl), (by simp [ev_c, ev_put, t6] <;> rfl), (by simp [ev_c, ev_put, t8] <;> rfl), (by simp [ev_c, ev_put, t19] <;> rfl), (by simp [ev_c, ev_put] <;> rfl)⟩
        · rw [List.map_append]
          exact o4.keep (Keeps.set h4 (h.next + 1) _) (o4.1.set (by omega) (by omega) hw0 _) fun b hb e => (o4.ne g84) (e ▸ hb)
        · rintro c (h | h)
          · exact h
          · exact .inr (by omega)
        · rintro b ⟨_, _, _, e⟩; cases e; omega
    · simp -implicitDefEqProofs (maxSteps := 999999) (disch := first | with_reducible rfl | omega | (simp only [nA, nS, nD] <;> omega) | fail) only [go_sem, t0, t2, t6, t8, t19, t20, hi', hi0, cells_of g8H]
      refine Upto_ev sH hw0 hx hp0 pH (by omega) (by omega) _ fun kd h3 kd0 kd1 s3 p3 k3 n3 => ?_
      have oL3 := oLH.keep k3 s3 fun b hb e => (oLH.ne (spGet pH)) (e ▸ hb)
      have g83 := k3.2 _ _ g8H (by omega)
      have g63 := k3.2 _ _ g6H (by omega)
      have L1 := OwnC.one oL3.c
      have sA := (H.Sub.refl s3.wf).add (.cells .rw [.int .i64 (-1), .int .i64 kd])
      have hll : (l.map Go.Ab.Try.encL).length ≤ 12 := by simp only [List.length_map]; omega
      simp -implicitDefEqProofs (maxSteps := 999999) (disch := first | with_reducible rfl | omega | (simp only [nA, nS, nD] <;> omega) | fail) only [go_sem, t0, t2, t6, t8, t19, t20, cells_of g8H, cells_of g83]
      refine (oL3.mono sA).app1 (r := [.int .i64 (-1), .int .i64 kd]) hw0 rfl (by omega) (SlAt.new _ rfl rfl rfl (by simp) (by simp)) rfl (by omega) (by omega) fun h4 o4 k4 n4 => ?_
      have g84 := k4.2 _ _ (sA.get g83) ((oL3.mono sA).ne (sA.get g83))
      have g64 := k4.2 _ _ (sA.get g63) ((oL3.mono sA).ne (sA.get g63))
      have p4 : SpAt h4 p x (T' + 1) := (p3.mono sA).keep k4 ((oL3.mono sA).ne (spGet (p3.mono sA)))
      have l4 := k4.1
      simp only [H.next_add] at n4 o4 l4
      have z84 := cells_of g84
      have K4 : Keeps (fun c => c = p ∨ h.next ≤ c) h h4 := by
        refine (((KH.trans k3).trans (Keeps.of sA (fun _ => False))).trans k4).mono ?_
        rintro c (((h | h) | h) | h)
        · exact h
        · exact .inl h
        · exact h.elim
        · exact .inr (by have := (oLH.blk h).1; exact oLN c h)
      simp -implicitDefEqProofs (maxSteps := 999999) (disch := first | with_reducible rfl | omega | (simp only [nA, nS, nD] <;> omega) | fail) only [go_sem, t0, t2, t6, t8, t19, t20, cells_of g8H, cells_of g83, (sA.cells (cells_of g83)), z84, g84, V.one, V.cells, wr_succ]
      refine ⟨_, _, _, l ++ [⟨(-1), kd⟩], T' + 1, rfl, o4.1.set (by omega) (by omega) hw0 _, ?_, by simp [hli], hlo.snoc ⟨by omega, by omega⟩ ⟨by omega, by omega⟩, p4.keep (Keeps.set _ _ _) (by omega), by omega, by omega, (K4.trans (Keeps.set _ _ _)).mono ?_, by simp only [H.next_set]; omega, by rw [get_set_other (by omega)]; exact g64, get_set_same rfl, ?_, (by simp [ev_c, ev_put, t0] <;> rfl), (by simp [ev_c, ev_put, t2] <;> rfl), (by simp [ev_c, ev_put, t6] <;> rfl), (by simp [ev_c, ev_put, t8] <;> rfl), (by simp [ev_c, ev_put, t19] <;> rfl), (by simp [ev_c, ev_put] <;> rfl)⟩
      · rw [List.map_append]
        exact o4.keep (Keeps.set h4 (h.next + 1) _) (o4.1.set (by omega) (by omega) hw0 _) fun b hb e => (o4.ne g84) (e ▸ hb)
      · rintro c (h | h)
        · exact h
        · exact .inr (by omega)
      · rintro b ⟨_, _, _, e⟩; cases e; omega
  · rintro s ⟨tm, hH, L, l, T', rfl, sH, oLH, hli, hlo, pH, T0, T1, KH, lt, g6H, g8H, oLN, t0, t2, t6, t8, t19, t20⟩
    subst hli
    have hN : l.length ≤ 12 := by omega
    have L1 := OwnC.one oLH.c
    have aLH := oLH.sl (by simp only [List.length_map]; omega)
    have hlenL := aLH.lenE
    obtain ⟨m, em⟩ : ∃ m : Ml, m = ⟨e, l, []⟩ := ⟨_, rfl⟩
    have em1 : m.lots = l := by rw [em]
    have em2 : m.wgs = [] := by rw [em]
    have em3 : m.errs = e := by rw [em]
    have g : Good m := by rw [em]; exact good_made (by omega) (by omega) hlo
    have F := forest g
    have nLp : ∀ b, blkOf L b → b ≠ p := fun b hb e => (oLH.ne (spGet pH)) (e ▸ hb)
    have nLR : ∀ b, blkOf L b → b < hH.next := fun b hb => (oLH.blk hb).2.1
    have nLt : ∀ b, blkOf L b → b ≠ h.next + 1 ∧ b ≠ h.next := fun b hb => ⟨fun e => (oLH.ne g8H) (e ▸ hb), fun e => (oLH.ne g6H) (e ▸ hb)⟩
    have hz := tab_zero l.length
    have sR := (H.Sub.refl sH.wf).add (.cells .rw (tab (fun _ => 0) l.length))
    have gR : (hH.add (.cells .rw (tab (fun _ => 0) l.length))).get hH.next = some (.cells .rw (tab (fun _ => 0) l.length)) := get_add_new rfl
    have lR : (hH.add (.cells .rw (tab (fun _ => 0) l.length))).next = hH.next + 1 := H.next_add _ _
    simp -implicitDefEqProofs (maxSteps := 999999) (disch := first | with_reducible rfl | omega | (simp only [nA, nS, nD] <;> omega) | fail) only [go_sem, t0, t2, t6, t8, t19, t20, Int.lt_irrefl, cells_of g8H, hlenL, a_msl_nm, hz]
    generalize hH.add (.cells .rw (tab (fun _ => 0) l.length)) = hR at sR gR lR ⊢
    have g8R := sR.get g8H
    have KR : Keeps (fun c => c = p ∨ h.next ≤ c) h hR := (KH.trans (Keeps.of sR (fun _ => False))).mono fun c hc => hc.elim id False.elim
    simp -implicitDefEqProofs (maxSteps := 999999) (disch := first | with_reducible rfl | omega | (simp only [nA, nS, nD] <;> omega) | fail) only [go_sem, t0, t2, t6, t8, cells_of g8R, hlenL, wr_in]
    refine W_loop (fun k s => ∃ (tm : Go.Ab.T V) (h' : H) (i : Int) (r : Int → Int) (T' : Int), s = ⟨tm, h', []⟩ ∧ -1 ≤ i ∧ i < (l.length : Int) ∧ (k : Int) = i + 1 ∧ RealI m drams i r ∧ h0.Sub h' ∧ SlAt h' L 2 (l.map encL) ∧ SpAt h' p x T' ∧ 0 ≤ T' ∧ T' ≤ T + 2 + 3 * (l.length : Int) + ((l.length : Int) - 1 - i) ∧ Keeps (fun c => c = p ∨ h.next ≤ c) h h' ∧ hH.next < h'.next ∧
        h'.get h.next = some (.cells .rw [.int .i64 0, .nils, .nils]) ∧ h'.get (h.next + 1) = some (.cells .rw [.int .i64 e, L, .nils]) ∧ h'.get hH.next = some (.cells .rw (tab r l.length)) ∧
        (Opd.t 0).ev tm = .ptr p 0 ∧ (Opd.t 2).ev tm = .int .i64 drams ∧ (Opd.t 6).ev tm = .ptr h.next 0 ∧ (Opd.t 8).ev tm = .ptr (h.next + 1) 0 ∧ (Opd.t 11).ev tm = .sl hH.next 0 l.length (.fix l.length) ∧ (Opd.t 12).ev tm = .int .i64 i)
      ?_ l.length _ ⟨_, _, (l.length : Int) - 1, fun _ => 0, T', rfl, by omega, by omega, by omega, by have := RealI.start (D := drams) g; rw [em1] at this; exact this, sH.trans sR, aLH.mono sR, pH.mono sR, T0, by omega, KR, by omega, sR.get g6H, g8R, gR, (by simp [ev_c, ev_put, t0] <;> rfl), (by simp [ev_c, ev_put, t2] <;> rfl), (by simp [ev_c, ev_put, t6] <;> rfl), (by simp [ev_c, ev_put, t8] <;> rfl), (by simp [ev_c, ev_put] <;> rfl), (by simp [ev_c, ev_put] <;> rfl)⟩
    clear t0 t2 t6 t8 t19 t20 gR g8R sR lR KR pH oLH
    rintro k s ⟨tm, h', i, r, T2, rfl, i0, i1, hk, hI, s', aL', p', T20, T21, K', lt', g6', g8', gR', t0, t2, t6, t8, t11, t12⟩
    by_cases hi0 : 0 ≤ i
    · obtain ⟨ii, rfl⟩ := Int.eq_ofNat_of_zero_le hi0
      have hii : ii < l.length := by omega
      have hiim : ii < m.lots.length := by rw [em1]; exact hii
      have hi1m : (ii : Int) < m.lots.length := by omega
      have hmI : ∀ hh : H, SlAt hh L 2 (l.map encL) → MlIs hh (.agg [.int .i64 e, L, .nils]) m := fun hh a => ⟨L, .nils, by rw [em3], by rw [em1]; exact a, by rw [em2]; exact ⟨by simp, by simp, .inl ⟨rfl, rfl⟩⟩⟩
      obtain ⟨J, hJ⟩ : ∃ J : St → Prop, ∀ s, J s ↔ ∃ tm h2 r1 d T3, s = ⟨tm, h2, []⟩ ∧ (0 ≤ d ∧ d ≤ drams) ∧ r1 = (if parts m (ii : Int) = [] then up1 r (ii : Int) d else r) ∧ h0.Sub h2 ∧ SlAt h2 L 2 (l.map encL) ∧ SpAt h2 p x T3 ∧ 0 ≤ T3 ∧ T3 ≤ T2 + 1 ∧ Keeps (fun c => c = p ∨ h.next ≤ c) h h2 ∧ hH.next < h2.next ∧
          h2.get h.next = some (.cells .rw [.int .i64 0, .nils, .nils]) ∧ h2.get (h.next + 1) = some (.cells .rw [.int .i64 e, L, .nils]) ∧ h2.get hH.next = some (.cells .rw (tab r1 l.length)) ∧
          (Opd.t 0).ev tm = .ptr p 0 ∧ (Opd.t 2).ev tm = .int .i64 drams ∧ (Opd.t 6).ev tm = .ptr h.next 0 ∧ (Opd.t 8).ev tm = .ptr (h.next + 1) 0 ∧ (Opd.t 11).ev tm = .sl hH.next 0 l.length (.fix l.length) ∧ (Opd.t 12).ev tm = .int .i64 (ii : Int) := ⟨_, fun _ => Iff.rfl⟩
      simp -implicitDefEqProofs (maxSteps := 999999) (disch := first | with_reducible rfl | omega | (simp only [nA, nS, nD] <;> omega) | fail) only [go_sem, t0, t2, t6, t8, t11, t12, hi0, cells_of g8']
      refine whole_ev s'.wf (hmI _ aL') (ii : Int) _ fun h2 s2' => ?_
      have K2' : Keeps (fun c => c = p ∨ h.next ≤ c) h h2 := (K'.trans (Keeps.of s2' (fun _ => False))).mono fun c hc => hc.elim id False.elim
      have l2' := s2'.next
      simp -implicitDefEqProofs (maxSteps := 999999) (disch := first | with_reducible rfl | omega | (simp only [nA, nS, nD] <;> omega) | fail) only [go_sem]
      refine PB_cut (p := parts m (ii : Int) = []) J ?_ ?_ ?_
      · intro hp
        simp -implicitDefEqProofs (maxSteps := 999999) (disch := first | with_reducible rfl | omega | (simp only [nA, nS, nD] <;> omega) | fail) only [go_sem, t0, t2, t6, t8, t11, t12]
        refine Upto_ev (s'.trans s2') hw0 hx hp0 (p'.mono s2') (by omega) (by omega) _ fun d h3 d0 d1 s3 p3 k3 n3 => ?_
        have g63 := k3.2 _ _ (s2'.get g6') (by omega)
        have g83 := k3.2 _ _ (s2'.get g8') (by omega)
        have gR3 := k3.2 _ _ (s2'.get gR') (by have := KH.1; omega)
        have a3 := SlAt_keep (aL'.mono s2') k3 fun b hb e => nLp b hb e
        simp -implicitDefEqProofs (maxSteps := 999999) (disch := first | with_reducible rfl | omega | (simp only [nA, nS, nD] <;> omega) | fail) only [go_sem, t0, t2, t6, t8, t11, t12, q_iad_sl (nat_cst ii) hii, Nat.mul_one, gR3, tab_st2 hii]
        have K3 : Keeps (fun c => c = p ∨ h.next ≤ c) h (h3.set hH.next (.cells .rw (tab (fset r (ii : Int) d) l.length))) := ((K2'.trans k3).trans (Keeps.set _ _ _)).mono (by
          rintro c ((h | h) | h)
          · exact h
          · exact .inl h
          · exact .inr (by have := KH.1; omega))
        have hb0 : h0.next ≤ hH.next := by have := hs.next; have := KH.1; omega
        exact ⟨rfl, (hJ _).2 ⟨_, _, fset r (ii : Int) d, d, T2 + 1, rfl, ⟨d0, by omega⟩, by rw [if_pos hp]; rfl, s3.set hb0 (by omega) hw0 _, SlAt_keep a3 (Keeps.set _ _ _) fun b hb e => by have := nLR b hb; omega, p3.keep (Keeps.set _ _ _) (by have := KH.1; omega), by omega, by omega, K3, by rw [H.next_set]; omega,
          by rw [get_set_other (by omega)]; exact g63, by rw [get_set_other (by omega)]; exact g83, get_set_same rfl, (by simp [ev_c, ev_put, t0] <;> rfl), (by simp [ev_c, ev_put, t2] <;> rfl), (by simp [ev_c, ev_put, t6] <;> rfl), (by simp [ev_c, ev_put, t8] <;> rfl), (by simp [ev_c, ev_put, t11] <;> rfl), (by simp [ev_c, ev_put, t12] <;> rfl)⟩⟩
      · intro hp
        simp -implicitDefEqProofs (maxSteps := 999999) (disch := first | with_reducible rfl | omega | (simp only [nA, nS, nD] <;> omega) | fail) only [go_sem]
        exact ⟨rfl, (hJ _).2 ⟨_, _, r, 0, T2, rfl, ⟨by omega, by omega⟩, by rw [if_neg hp], s'.trans s2', aL'.mono s2', p'.mono s2', T20, by omega, K2', by omega, s2'.get g6', s2'.get g8', s2'.get gR', (by simp [ev_c, ev_put, t0] <;> rfl), (by simp [ev_c, ev_put, t2] <;> rfl), (by simp [ev_c, ev_put, t6] <;> rfl), (by simp [ev_c, ev_put, t8] <;> rfl), (by simp [ev_c, ev_put, t11] <;> rfl), (by simp [ev_c, ev_put, t12] <;> rfl)⟩⟩
      · clear t0 t2 t6 t8 t11 t12 g6' g8' gR' aL' p' s2' K2' l2' K' lt' s'
        intro s hs2
        obtain ⟨tm, h2, r1, d, T3, rfl, hd, e1, s2, a2, p2', T30, T31, K2', lt2, g62, g82', gR2, t0, t2, t6, t8, t11, t12⟩ := (hJ s).1 hs2
        have hf : frmAt m (ii : Int) = l[ii].frm := by rw [frmAt_nat hiim]; simp only [em1]
        obtain ⟨b3, o3, c3, cs3, e3, hcs3, hq3, hgg3, hn3, hn03⟩ := a2.at hii
        have hlow := frmAt_lt g hi0 hi1m
        have hpush := hI.push g hi0 hi1m hd e1 (r2 := if frmAt m (ii : Int) = -1 then r1 else up1 r1 (frmAt m (ii : Int)) (r1 (frmAt m (ii : Int)) + r1 (ii : Int))) rfl
        obtain ⟨hI2, hbd⟩ := hpush
        rw [em1] at hbd
        have hD : drams * ((l.length : Int) - (ii : Int)) ≤ 300 * 12 := Int.le_trans (Int.mul_le_mul_of_nonneg_right hdr.2 (by omega)) (by omega)
        rw [hf] at hI2 hbd hlow
        by_cases hr : l[ii].frm = -1
        · rw [if_pos hr] at hI2
          simp -implicitDefEqProofs (maxSteps := 999999) (disch := first | with_reducible rfl | omega | (simp only [nA, nS, nD] <;> omega) | fail) only [go_sem, t0, t2, t6, t8, t11, t12, cells_of g82', hq3 (nat_cst ii), hcs3, hn03 (by omega), encL, hr, ne_eq, not_true_eq_false, wr_in]
          exact ⟨ii, by omega, _, _, (ii : Int) - 1, r1, T3, rfl, by omega, by omega, by omega, hI2, s2, a2, p2', T30, by omega, K2', lt2, g62, g82', gR2, (by simp [ev_c, ev_put, t0] <;> rfl), (by simp [ev_c, ev_put, t2] <;> rfl), (by simp [ev_c, ev_put, t6] <;> rfl), (by simp [ev_c, ev_put, t8] <;> rfl), (by simp [ev_c, ev_put, t11] <;> rfl), (by simp [ev_c, ev_put] <;> rfl)⟩
        · rw [if_neg hr] at hI2
          have hbd2 := hbd hr
          obtain ⟨ff, ef⟩ := Int.eq_ofNat_of_zero_le (show 0 ≤ l[ii].frm by omega)
          rw [ef] at hI2 hbd2 hlow
          have hff : ff < l.length := by omega
          have hr' : ¬ (ff : Int) = -1 := by omega
          simp -implicitDefEqProofs (maxSteps := 999999) (disch := first | with_reducible rfl | omega | (simp only [nA, nS, nD] <;> omega) | fail) only [go_sem, t0, t2, t6, t8, t11, t12, cells_of g82', hq3 (nat_cst ii), hcs3, hn03 (by omega), encL, ef, hr', ne_eq, not_false_eq_true, q_iad_sl (nat_cst ii) hii, q_iad_sl (nat_cst ff) hff, Nat.mul_one, cells_of gR2, gR2, tab_at2 hii, tab_at2 hff, tab_st2 hff, wr_in]
          have hb0 : h0.next ≤ hH.next := by have := hs.next; have := KH.1; omega
          have K3 : Keeps (fun c => c = p ∨ h.next ≤ c) h (h2.set hH.next (.cells .rw (tab (fset r1 (ff : Int) (r1 (ff : Int) + r1 (ii : Int))) l.length))) := (K2'.trans (Keeps.set _ _ _)).mono (by
            rintro c (h | h)
            · exact h
            · exact .inr (by have := KH.1; omega))
          exact ⟨ii, by omega, _, _, (ii : Int) - 1, fset r1 (ff : Int) (r1 (ff : Int) + r1 (ii : Int)), T3, rfl, by omega, by omega, by omega, hI2, s2.set hb0 (by omega) hw0 _, SlAt_keep a2 (Keeps.set _ _ _) fun b hb e => by have := nLR b hb; omega, p2'.keep (Keeps.set _ _ _) (by have := KH.1; omega), T30, by omega, K3, by rw [H.next_set]; omega,
            by rw [get_set_other (by omega)]; exact g62, by rw [get_set_other (by omega)]; exact g82', get_set_same rfl, (by simp [ev_c, ev_put, t0] <;> rfl), (by simp [ev_c, ev_put, t2] <;> rfl), (by simp [ev_c, ev_put, t6] <;> rfl), (by simp [ev_c, ev_put, t8] <;> rfl), (by simp [ev_c, ev_put, t11] <;> rfl), (by simp [ev_c, ev_put] <;> rfl)⟩
    · have hi1' : i = -1 := by omega
      subst hi1'
      have hn1 : ¬ (0 : Int) ≤ -1 := by omega
      simp -implicitDefEqProofs (maxSteps := 999999) (disch := first | with_reducible rfl | omega | (simp only [nA, nS, nD] <;> omega) | fail) only [go_sem, t0, t2, t6, t8, t11, t12, hn1, cells_of g8', g6', L1, cells_one L1]
      have hb0 : h0.next ≤ h.next := hs.next
      have K3 : Keeps (fun c => c = p) h (h'.set h.next (.cells .rw [.int .i64 e, L, .nils])) := Keeps.new hw ((K'.trans (Keeps.set _ _ _)).mono (by
        rintro c (h | h)
        · exact h
        · exact .inr (by omega)))
      exact q e l r L hH.next _ T2 ⟨e0, by omega⟩ ⟨by omega, by omega⟩ hlo (by rw [← em]; exact hI) (s'.set hb0 (by omega) hw0 _) (p'.keep (Keeps.set _ _ _) (by omega)) ⟨T20, by omega⟩ K3 (SlAt_keep aL' (Keeps.set _ _ _) fun b hb e => (nLt b hb).2 e) L1 (fun c hc => ⟨nLp c hc, oLN c hc⟩) (by have := KH.1; omega) (by rw [get_set_other (by omega)]; exact gR')
end Try
end Go.Ab
set_option linter.unusedSimpArgs false
set_option linter.unusedVariables false
namespace Go.Ab.Try
open Go.Ab.Silk
set_option maxHeartbeats 1000000 in
theorem Read_ev {h0 h : H} {p : Nat} {x L W : V} {bs : List Int} {T e : Int} (hs : h0.Sub h) (hw0 : h0.wf) (hx : SlAt h0 x 1 (bs.map encU8)) (hp0 : h0.next ≤ p) (hp : SpAt h p x T) (hT : 0 ≤ T ∧ T ≤ 1000000) (hL : L.one = true) (hW : W.one = true) (he : 0 ≤ e ∧ e ≤ 50) (lot : Int) {dry : Int} (hd : 0 ≤ dry ∧ dry ≤ 100000) (Q : V → H → Prop)
    (q : ∀ (w : Wg) h', w.lot = lot → (0 ≤ w.reads ∧ w.reads ≤ 10000) → (0 ≤ w.lo ∧ w.lo ≤ w.hi ∧ w.hi ≤ 60) → h0.Sub h' → SpAt h' p x (T + 4) → Keeps (fun c => c = p) h h' → Q (.agg (encW w)) h') : Ev fnG fastA (.fn 51 [] []) [.ptr p 0, .agg [.int .i64 e, L, W], .int .i64 lot, .int .i64 dry] h Q := by
  have hw := hs.wf
  have hlp := hw _ _ (spGet hp)
  refine Ev_body (fd := c51) rfl rfl rfl ?_
  have sA := ((H.Sub.refl hw).add (.cells .rw [.int .i64 e, L, W])).add (.cells .rw [.int .i64 0, .int .i64 0, .int .i64 0, .int .i64 0])
  have gm : ((h.add (.cells .rw [.int .i64 e, L, W])).add (.cells .rw [.int .i64 0, .int .i64 0, .int .i64 0, .int .i64 0])).get h.next = some (.cells .rw [.int .i64 e, L, W]) := by simp -implicitDefEqProofs (maxSteps := 999999) (disch := first | with_reducible rfl | omega | (simp only [nA, nS, nD] <;> omega) | fail) only [go_sem]
  have gr : ((h.add (.cells .rw [.int .i64 e, L, W])).add (.cells .rw [.int .i64 0, .int .i64 0, .int .i64 0, .int .i64 0])).get (h.next + 1) = some (.cells .rw [.int .i64 0, .int .i64 0, .int .i64 0, .int .i64 0]) := by simp -implicitDefEqProofs (maxSteps := 999999) (disch := first | with_reducible rfl | omega | (simp only [nA, nS, nD] <;> omega) | fail) only [go_sem]
  have lA : ((h.add (.cells .rw [.int .i64 e, L, W])).add (.cells .rw [.int .i64 0, .int .i64 0, .int .i64 0, .int .i64 0])).next = h.next + 2 := by simp only [H.next_add]
  simp -implicitDefEqProofs (maxSteps := 999999) (disch := first | with_reducible rfl | omega | (simp only [nA, nS, nD] <;> omega) | fail) only [c51, go_sem, hL, hW, cells_one hL, cells_one hW]
  generalize ((h.add (.cells .rw [.int .i64 e, L, W])).add (.cells .rw [.int .i64 0, .int .i64 0, .int .i64 0, .int .i64 0])) = hA at sA gm gr lA ⊢
  have KA : Keeps (fun c => c = p ∨ h.next ≤ c) h hA := (Keeps.of sA (fun _ => False)).mono fun c hc => hc.elim
  refine Upto_ev (hs.trans sA) hw0 hx hp0 (hp.mono sA) (by omega) (by omega) _ fun lo h1 lo0 lo1 s1 p1 k1 n1 => ?_
  simp -implicitDefEqProofs (maxSteps := 999999) (disch := first | with_reducible rfl | omega | (simp only [nA, nS, nD] <;> omega) | fail) only [go_sem, wr_in]
  refine From_ev s1 hw0 hx hp0 p1 (by omega) (by omega) (by omega) _ fun hi h2 hi0 hi1 s2 p2 k2 n2 => ?_
  simp -implicitDefEqProofs (maxSteps := 999999) (disch := first | with_reducible rfl | omega | (simp only [nA, nS, nD] <;> omega) | fail) only [go_sem, wr_in]
  refine From_ev s2 hw0 hx hp0 p2 (by omega) (by omega) (by omega) _ fun re h3 re0 re1 s3 p3 k3 n3 => ?_
  have k13 := (k1.trans k2).trans k3
  have gm3 := k13.2 _ _ gm (by omega)
  have hmul : 0 ≤ dry * (100 + re) ∧ dry * (100 + re) ≤ 100000 * 160 := ⟨Int.mul_nonneg hd.1 (by omega), by
    have h1 : dry * (100 + re) ≤ 100000 * (100 + re) := Int.mul_le_mul_of_nonneg_right hd.2 (by omega)
    have h2 : (100000 : Int) * (100 + re) ≤ 100000 * 160 := Int.mul_le_mul_of_nonneg_left (by omega) (by omega)
    omega⟩
  have hq := tdiv_le (a := dry * (100 + re) + 50) (b := 100) (by omega) (by omega)
  have n100 : (100 : Int) ≠ 0 := by omega
  simp -implicitDefEqProofs (maxSteps := 999999) (disch := first | with_reducible rfl | omega | (simp only [nA, nS, nD] <;> omega) | fail) only [go_sem, wr_in, q_ar_quo .i64 n100, cells_of gm3]
  refine From_ev s3 hw0 hx hp0 p3 (by omega) (by omega) (by omega) _ fun er h4 er0 er1 s4 p4 k4 n4 => ?_
  have k14 := k13.trans k4
  have gr4 := k14.2 _ _ gr (by omega)
  simp -implicitDefEqProofs (maxSteps := 999999) (disch := first | with_reducible rfl | omega | (simp only [nA, nS, nD] <;> omega) | fail) only [go_sem, wr_in, gr4]
  have K5 : Keeps (fun c => c = p) h (h4.set (h.next + 1) (.cells .rw [.int .i64 lot, .int .i64 (min 10000 (max 0 ((dry * (100 + re) + 50).tdiv 100 + er))), .int .i64 lo, .int .i64 hi])) := Keeps.new hw (((KA.trans k14).trans (Keeps.set _ _ _)).mono (by
    rintro c ((h | (((h | h) | h) | h)) | h)
    · exact h
    · exact .inl h
    · exact .inl h
    · exact .inl h
    · exact .inl h
    · exact .inr (by omega)))
  have hb0 := hs.next
  have hp4 : SpAt h4 p x (T + 4) := by
    have e4 : T + 1 + 1 + 1 + 1 = T + 4 := by omega
    rw [← e4]; exact p4
  exact q ⟨lot, _, lo, hi⟩ _ rfl ⟨by simp only; omega, by simp only; omega⟩ ⟨by simp only; omega, by simp only; omega, by simp only; omega⟩ (s4.set (by omega) (by have := k14.1; omega) hw0 _) (hp4.keep (Keeps.set _ _ _) (by omega)) K5
def WgsOk (n : Nat) (e : Int) (r : Int → Int) (l : List Wg) : Prop := ∀ w ∈ l, (0 ≤ w.lot ∧ w.lot < n) ∧ (0 ≤ w.reads ∧ w.reads ≤ 10000) ∧ (0 ≤ w.lo ∧ w.lo ≤ w.hi ∧ w.hi ≤ 60) ∧ rightM e w (r w.lot) = true
structure RealM (m : Ml) (r : Int → Int) (D : Int) : Prop where
  good : Good m
  feas : FeasM m allC r
  lim : ∀ j : Int, 0 ≤ j → j < m.lots.length → 0 ≤ r j ∧ r j ≤ D
theorem realM_of {e D : Int} {l : List Lt} {wg : List Wg} {r : Int → Int} (he : 0 ≤ e ∧ e ≤ 50) (h1 : 1 ≤ l.length ∧ l.length ≤ 12) (hl : LotsOk l) (hD : 0 ≤ D ∧ D ≤ 300) (hr : RealI ⟨e, l, []⟩ D (-1) r) (hw : WgsOk l.length e r wg) (hn : wg.length ≤ 10) : RealM ⟨e, l, wg⟩ r 3600 := by
  have g0 := good_made he h1 hl
  obtain ⟨a1, a2⟩ := hr.last g0 hD.1
  have g : Good ⟨e, l, wg⟩ := ⟨h1, hn, he, fun w hm => by obtain ⟨_, b, c, _⟩ := hw w hm; exact ⟨b, ⟨c.1, by omega⟩, ⟨by omega, c.2.2⟩⟩, g0.kind, g0.frm, fun w hm => by obtain ⟨b, _⟩ := hw w hm; exact ⟨b.1, by have := b.2; simp only; omega⟩, fun w hm => (hw w hm).2.2.1.2.1⟩
  have bd : ∀ j : Int, 0 ≤ j → j < (l.length : Int) → 0 ≤ r j ∧ r j ≤ 3600 := fun j j0 j1 => by
    have := a1 j j0 j1; omega
  refine ⟨g, ⟨(own_iff g).2 ⟨fun i i0 i1 => by have := bd i i0 i1; omega, fun k hk _ => ?_⟩, fun i i0 i1 hp => a2 i i0 i1 hp⟩, bd⟩
  have hk' : k < wg.length := hk
  show sayLo ⟨e, l, wg⟩ wg[k] ≤ r wg[k].lot ∧ r wg[k].lot ≤ sayHi ⟨e, l, wg⟩ wg[k]
  obtain ⟨b1, b2, b3, b4⟩ := hw _ (List.getElem_mem hk')
  have := bd _ b1.1 b1.2
  have e5 := right_iff (m := ⟨e, l, wg⟩) (w := wg[k]) (k := r wg[k].lot) b3.1 (by omega) (by simp only; omega) (by omega)
  rw [show (Ml.mk e l wg).errs = e from rfl, b4] at e5
  exact of_decide_eq_true e5.symm
set_option maxRecDepth 4000 in
set_option maxHeartbeats 4000000 in
theorem Weighed_ev {h0 h : H} {p b : Nat} {x L : V} {bs : List Int} {T e : Int} {l : List Lt} {r : Int → Int} (hs : h0.Sub h) (hw0 : h0.wf) (hx : SlAt h0 x 1 (bs.map encU8)) (hp0 : h0.next ≤ p) (hp : SpAt h p x T) (hT : 0 ≤ T ∧ T ≤ 100000) (hl1 : L.one = true) (aL : SlAt h L 2 (l.map encL)) (hll : 1 ≤ l.length ∧ l.length ≤ 12) (he : 0 ≤ e ∧ e ≤ 50)
    (hbp : b ≠ p) (hLp : ∀ c, blkOf L c → c ≠ p) (hb : h.get b = some (.cells .rw (tab r l.length))) (hr : ∀ j : Int, 0 ≤ j → j < l.length → 0 ≤ r j ∧ r j ≤ 100000) {most : Int} (hm : 0 ≤ most ∧ most ≤ 100) (Q : V → H → Prop)
    (q : ∀ wg W h' T', WgsOk l.length e r wg → wg.length ≤ 10 ∧ (wg.length : Int) ≤ most → OwnSl h0 h' W 4 (wg.map encW) → (∀ c, blkOf W c → h.next ≤ c) → SpAt h' p x T' → (0 ≤ T' ∧ T' ≤ T + 600) → Keeps (fun c => c = p) h h' → Q (.agg [.int .i64 e, L, W]) h') :
    Ev fnG fastA (.fn 34 [] []) [.ptr p 0, .agg [.int .i64 e, L, .nils], .sl b 0 l.length (.fix l.length), .int .i64 most] h Q := by
  have hw := hs.wf
  have hlp := hw _ _ (spGet hp)
  have hlb := hw _ _ hb
  have hlenL := aL.lenE
  refine Ev_body (fd := c34) rfl rfl rfl ?_
  have sA := ((H.Sub.refl hw).add (.cells .rw [.int .i64 e, L, .nils])).add (.cells .rw [.int .i64 0, .nils, .nils])
  have gm : ((h.add (.cells .rw [.int .i64 e, L, .nils])).add (.cells .rw [.int .i64 0, .nils, .nils])).get h.next = some (.cells .rw [.int .i64 e, L, .nils]) := by simp -implicitDefEqProofs (maxSteps := 999999) (disch := first | with_reducible rfl | omega | (simp only [nA, nS, nD] <;> omega) | fail) only [go_sem]
  have gr : ((h.add (.cells .rw [.int .i64 e, L, .nils])).add (.cells .rw [.int .i64 0, .nils, .nils])).get (h.next + 1) = some (.cells .rw [.int .i64 0, .nils, .nils]) := by simp -implicitDefEqProofs (maxSteps := 999999) (disch := first | with_reducible rfl | omega | (simp only [nA, nS, nD] <;> omega) | fail) only [go_sem]
  have lA : ((h.add (.cells .rw [.int .i64 e, L, .nils])).add (.cells .rw [.int .i64 0, .nils, .nils])).next = h.next + 2 := by simp only [H.next_add]
  simp -implicitDefEqProofs (maxSteps := 999999) (disch := first | with_reducible rfl | omega | (simp only [nA, nS, nD] <;> omega) | fail) only [c34, go_sem, hl1, cells_one hl1]
  generalize ((h.add (.cells .rw [.int .i64 e, L, .nils])).add (.cells .rw [.int .i64 0, .nils, .nils])) = hA at sA gm gr lA ⊢
  have KA : Keeps (fun c => c = p ∨ h.next ≤ c) h hA := (Keeps.of sA (fun _ => False)).mono fun c hc => hc.elim
  refine Upto_ev (hs.trans sA) hw0 hx hp0 (hp.mono sA) (by omega) (by omega) _ fun N h1 N0 N1 s1 p1 k1 n1 => ?_
  obtain ⟨Nn, rfl⟩ := Int.eq_ofNat_of_zero_le N0
  have gm1 := k1.2 _ _ gm (by omega)
  have gr1 := k1.2 _ _ gr (by omega)
  have gb1 := k1.2 _ _ (sA.get hb) (by omega)
  have K1 : Keeps (fun c => c = p ∨ h.next ≤ c) h h1 := (KA.trans k1).mono fun c hc => hc.elim id .inl
  simp -implicitDefEqProofs (maxSteps := 999999) (disch := first | with_reducible rfl | omega | (simp only [nA, nS, nD] <;> omega) | fail) only [go_sem]
  refine W_count Nn (fun i s => ∃ (tm : Go.Ab.T V) (h' : H) (W : V) (wg : List Wg) (T' : Int), s = ⟨tm, h', []⟩ ∧ h0.Sub h' ∧ OwnSl h0 h' W 4 (wg.map encW) ∧ (∀ c, blkOf W c → h.next + 2 ≤ c) ∧ WgsOk l.length e r wg ∧ (wg.length ≤ 10 ∧ wg.length ≤ i) ∧ SpAt h' p x T' ∧ 0 ≤ T' ∧ T' ≤ T + 1 + 5 * (i : Int) ∧ Keeps (fun c => c = p ∨ h.next ≤ c) h h' ∧ h.next + 1 < h'.next ∧
      h'.get h.next = some (.cells .rw [.int .i64 e, L, W]) ∧ h'.get (h.next + 1) = some (.cells .rw [.int .i64 0, .nils, .nils]) ∧
      (Opd.t 0).ev tm = .ptr p 0 ∧ (Opd.t 2).ev tm = .sl b 0 l.length (.fix l.length) ∧ (Opd.t 5).ev tm = .ptr h.next 0 ∧ (Opd.t 8).ev tm = .ptr (h.next + 1) 0 ∧ (Opd.t 13).ev tm = .int .i64 (Nn : Int) ∧ (Opd.t 14).ev tm = .int .i64 (i : Int))
    ?_ ?_ (i := 0) (Nat.zero_le _) ⟨_, _, .nils, [], T + 1, rfl, s1, OwnSl.nil s1 4, fun c hc => (blkOf_nils hc).elim, fun w hw => by simp at hw, ⟨by simp, by simp⟩, p1, by omega, by omega, K1, by omega, gm1, gr1, (by simp [ev_c, ev_put] <;> rfl), (by simp [ev_c, ev_put] <;> rfl), (by simp [ev_c, ev_put] <;> rfl), (by simp [ev_c, ev_put] <;> rfl), (by simp [ev_c, ev_put] <;> rfl), (by simp [ev_c, ev_put] <;> rfl)⟩
  · rintro i s hi ⟨tm, h', W, wg, T', rfl, s', oW, nW, hok, hlen, p', T0, T1, K', lt, gm', gr', t0, t2, t5, t8, t13, t14⟩
    have hi' : (i : Int) < (Nn : Int) := by omega
    have W1 := OwnC.one oW.c
    simp -implicitDefEqProofs (maxSteps := 999999) (disch := first | with_reducible rfl | omega | (simp only [nA, nS, nD] <;> omega) | fail) only [go_sem, t0, t2, t5, t8, t13, t14, hi', cells_of gm', hlenL, wr_in]
    refine Upto_ev s' hw0 hx hp0 p' (by omega) (by omega) _ fun lt0 h2 a0 a1 s2 p2 k2 n2 => ?_
    obtain ⟨ln, rfl⟩ := Int.eq_ofNat_of_zero_le a0
    have hln : ln < l.length := by omega
    have gb2 := k2.2 _ _ (K'.2 _ _ hb (by omega)) (by omega)
    have gm2 := k2.2 _ _ gm' (by omega)
    have gr2 := k2.2 _ _ gr' (by omega)
    have oW2 := oW.keep k2 s2 fun c hc e => (oW.ne (spGet p')) (e ▸ hc)
    have hrl := hr (ln : Int) (by omega) (by omega)
    simp -implicitDefEqProofs (maxSteps := 999999) (disch := first | with_reducible rfl | omega | (simp only [nA, nS, nD] <;> omega) | fail) only [go_sem, t0, t2, t5, t8, t13, t14, cells_of gm2, q_iad_sl (nat_cst ln) hln, Nat.mul_one, cells_of gb2, tab_at2 hln]
    refine Read_ev s2 hw0 hx hp0 p2 (by omega) hl1 W1 he (ln : Int) hrl _ fun w h3 wl wr' wd s3 p3 k3 => ?_
    have gb3 := k3.2 _ _ gb2 (by omega)
    have gm3 := k3.2 _ _ gm2 (by omega)
    have gr3 := k3.2 _ _ gr2 (by omega)
    have oW3 := oW2.keep k3 s3 fun c hc e => (oW2.ne (spGet p2)) (e ▸ hc)
    have l3 := k3.1
    have sB := (H.Sub.refl s3.wf).add (.cells .rw [.int .i64 w.lot, .int .i64 w.reads, .int .i64 w.lo, .int .i64 w.hi])
    have gB : (h3.add (.cells .rw [.int .i64 w.lot, .int .i64 w.reads, .int .i64 w.lo, .int .i64 w.hi])).get h3.next = some (.cells .rw [.int .i64 w.lot, .int .i64 w.reads, .int .i64 w.lo, .int .i64 w.hi]) := get_add_new rfl
    have lB : (h3.add (.cells .rw [.int .i64 w.lot, .int .i64 w.reads, .int .i64 w.lo, .int .i64 w.hi])).next = h3.next + 1 := H.next_add _ _
    have hlt0 := lt
    have oWB := oW3.mono sB
    have pB := p3.mono sB
    have gbB := sB.get gb3
    have gmB := sB.get gm3
    have grB := sB.get gr3
    have KB : Keeps (fun c => c = p ∨ h.next ≤ c) h (h3.add (.cells .rw [.int .i64 w.lot, .int .i64 w.reads, .int .i64 w.lo, .int .i64 w.hi])) := (((K'.trans k2).trans k3).trans (Keeps.of sB (fun _ => False))).mono (by
      rintro c (((h | h) | h) | h)
      · exact h
      · exact .inl h
      · exact .inl h
      · exact h.elim)
    simp -implicitDefEqProofs (maxSteps := 999999) (disch := first | with_reducible rfl | omega | (simp only [nA, nS, nD] <;> omega) | fail) only [go_sem, t0, t2, t5, t8, t13, t14, cells_of gm2, cells_of gb2, encW]
    generalize h3.add (.cells .rw [.int .i64 w.lot, .int .i64 w.reads, .int .i64 w.lo, .int .i64 w.hi]) = h4 at sB gB lB oWB pB gbB gmB grB KB ⊢
    have w4 := H.Sub.wf sB
    have s4 := s3.trans sB
    have hrt := right_ev (h := h4) (L := L) (W := W) (e := e) (w := w) (n := r (ln : Int)) (by omega) (by omega) (by omega) (by omega) (by omega)
    simp only [encW] at hrt
    have s45 : h4.Sub ((h4.add (.cells .rw [.int .i64 e, L, W])).add (.cells .rw [.int .i64 w.lot, .int .i64 w.reads, .int .i64 w.lo, .int .i64 w.hi])) := ((H.Sub.refl w4).add _).add _
    have l45 := s45.next
    simp -implicitDefEqProofs (maxSteps := 999999) (disch := first | with_reducible rfl | omega | (simp only [nA, nS, nD] <;> omega) | fail) only [go_sem, t0, t2, t5, t8, t13, t14, cells_of gm2, cells_of gm3, cells_of gmB, cells_of gb2, cells_of gb3, cells_of gbB, cells_of gB, q_iad_sl (nat_cst ln) hln, Nat.mul_one, tab_at2 hln, hrt]
    generalize ((h4.add (.cells .rw [.int .i64 e, L, W])).add (.cells .rw [.int .i64 w.lot, .int .i64 w.reads, .int .i64 w.lo, .int .i64 w.hi])) = h5 at s45 l45 ⊢
    have s5 := s4.trans s45
    have gm5 := s45.get gmB
    have gr5 := s45.get grB
    have gb5 := s45.get gbB
    have gB5 := s45.get gB
    have p5 := pB.mono s45
    have oW5 := oWB.mono s45
    have K5 : Keeps (fun c => c = p ∨ h.next ≤ c) h h5 := (KB.trans (Keeps.of s45 (fun _ => False))).mono fun c hc => hc.elim id False.elim
    have hlW : q_len W = some (.int .i64 (wg.length : Int)) := (oW5.sl (by simp only [List.length_map]; omega)).lenE
    cases hri : rightM e w (r (ln : Int))
    · simp -implicitDefEqProofs (maxSteps := 999999) (disch := first | with_reducible rfl | omega | (simp only [nA, nS, nD] <;> omega) | fail) only [go_sem, t0, t2, t5, t8, t13, t14, cells_of gm3, cells_of gmB, cells_of gB, cells_of gbB, q_iad_sl (nat_cst ln) hln, Nat.mul_one, tab_at2 hln, wr_succ]
      exact ⟨_, _, W, wg, T' + 1 + 4, rfl, s5, oW5, nW, hok, ⟨hlen.1, by omega⟩, p5, by omega, by omega, K5, by omega, gm5, gr5, (by simp [ev_c, ev_put, t0] <;> rfl), (by simp [ev_c, ev_put, t2] <;> rfl), (by simp [ev_c, ev_put, t5] <;> rfl), (by simp [ev_c, ev_put, t8] <;> rfl), (by simp [ev_c, ev_put, t13] <;> rfl), (by simp [ev_c, ev_put] <;> rfl)⟩
    · by_cases h10 : (wg.length : Int) < 10
      · have sC := (H.Sub.refl s5.wf).add (.cells .rw [.int .i64 w.lot, .int .i64 w.reads, .int .i64 w.lo, .int .i64 w.hi])
        simp -implicitDefEqProofs (maxSteps := 999999) (disch := first | with_reducible rfl | omega | (simp only [nA, nS, nD] <;> omega) | fail) only [go_sem, t0, t2, t5, t8, t13, t14, cells_of gm3, cells_of gmB, cells_of gm5, cells_of gB, cells_of gB5, cells_of gbB, q_iad_sl (nat_cst ln) hln, Nat.mul_one, tab_at2 hln, hlW, h10]
        refine (oW5.mono sC).app1 (r := encW w) hw0 rfl (by omega) (SlAt.new _ rfl rfl (by simp [encW]) (by simp [encW]) (by simp)) rfl (by simp only [List.length_map]; omega) (by simp only [List.length_map]; omega) fun h6 o6 k6 n6 => ?_
        have gm6 := k6.2 _ _ (sC.get gm5) ((oW5.mono sC).ne (sC.get gm5))
        have gr6 := k6.2 _ _ (sC.get gr5) ((oW5.mono sC).ne (sC.get gr5))
        have p6 := (p5.mono sC).keep k6 ((oW5.mono sC).ne (spGet (p5.mono sC)))
        simp only [H.next_add] at n6 o6
        have K6 : Keeps (fun c => c = p ∨ h.next ≤ c) h (h6.set h.next (.cells .rw [.int .i64 e, L, .sl (h5.next + 1) 0 ((wg.map encW).length + 1) (.slk 0 0)])) := (((K5.trans (Keeps.of sC (fun _ => False))).trans k6).trans (Keeps.set _ _ _)).mono (by
          rintro c (((h | h) | h) | h)
          · exact h
          · exact h.elim
          · exact .inr (by have := nW c h; omega)
          · exact .inr (by omega))
        simp -implicitDefEqProofs (maxSteps := 999999) (disch := first | with_reducible rfl | omega | (simp only [nA, nS, nD] <;> omega) | fail) only [go_sem, t0, t2, t5, t8, t13, t14, cells_of gm6, gm6, wr_succ]
        refine ⟨_, _, .sl (h5.next + 1) 0 ((wg.map encW).length + 1) (.slk 0 0), wg ++ [w], T' + 1 + 4, rfl, o6.1.set (by have := hs.next; omega) (by omega) hw0 _, ?_, ?_, ?_, ⟨by simp; omega, by simp; omega⟩, p6.keep (Keeps.set _ _ _) (by omega), by omega, by omega, K6, by rw [H.next_set]; omega, get_set_same rfl, by rw [get_set_other (by omega)]; exact gr6, (by simp [ev_c, ev_put, t0] <;> rfl), (by simp [ev_c, ev_put, t2] <;> rfl), (by simp [ev_c, ev_put, t5] <;> rfl), (by simp [ev_c, ev_put, t8] <;> rfl), (by simp [ev_c, ev_put, t13] <;> rfl), (by simp [ev_c, ev_put] <;> rfl)⟩
        · rw [List.map_append]
          exact o6.keep (Keeps.set h6 h.next _) (o6.1.set (by have := hs.next; omega) (by omega) hw0 _) fun c hc e => (o6.ne gm6) (e ▸ hc)
        · rintro c ⟨_, _, _, e⟩; cases e; omega
        · intro w' hw'
          rw [List.mem_append, List.mem_singleton] at hw'
          rcases hw' with hw' | rfl
          · exact hok w' hw'
          · exact ⟨⟨by omega, by omega⟩, wr', wd, by rw [wl]; exact hri⟩
      · simp -implicitDefEqProofs (maxSteps := 999999) (disch := first | with_reducible rfl | omega | (simp only [nA, nS, nD] <;> omega) | fail) only [go_sem, t0, t2, t5, t8, t13, t14, cells_of gm3, cells_of gmB, cells_of gm5, cells_of gB, cells_of gbB, q_iad_sl (nat_cst ln) hln, Nat.mul_one, tab_at2 hln, hlW, h10, wr_succ]
        exact ⟨_, _, W, wg, T' + 1 + 4, rfl, s5, oW5, nW, hok, ⟨hlen.1, by omega⟩, p5, by omega, by omega, K5, by omega, gm5, gr5, (by simp [ev_c, ev_put, t0] <;> rfl), (by simp [ev_c, ev_put, t2] <;> rfl), (by simp [ev_c, ev_put, t5] <;> rfl), (by simp [ev_c, ev_put, t8] <;> rfl), (by simp [ev_c, ev_put, t13] <;> rfl), (by simp [ev_c, ev_put] <;> rfl)⟩
  · rintro s ⟨tm, h', W, wg, T', rfl, s', oW, nW, hok, hlen, p', T0, T1, K', lt, gm', gr', t0, t2, t5, t8, t13, t14⟩
    have W1 := OwnC.one oW.c
    simp -implicitDefEqProofs (maxSteps := 999999) (disch := first | with_reducible rfl | omega | (simp only [nA, nS, nD] <;> omega) | fail) only [go_sem, t0, t2, t5, t8, t13, t14, Int.lt_irrefl, cells_of gm', gr', hl1, W1, cells_one hl1, cells_one W1]
    have hb0 := hs.next
    have K3 : Keeps (fun c => c = p) h (h'.set (h.next + 1) (.cells .rw [.int .i64 e, L, W])) := Keeps.new hw ((K'.trans (Keeps.set _ _ _)).mono (by
      rintro c (h | h)
      · exact h
      · exact .inr (by omega)))
    exact q wg W _ T' hok ⟨hlen.1, by omega⟩ (oW.keep (Keeps.set _ _ _) (s'.set (by omega) (by omega) hw0 _) fun c hc e => by have := nW c hc; omega) (fun c hc => by have := nW c hc; omega) (p'.keep (Keeps.set _ _ _) (by omega)) ⟨T0, by omega⟩ K3
end Go.Ab.Try
set_option linter.unusedSimpArgs false
set_option linter.unusedVariables false
namespace Go.Ab.Try
open Go.Ab.Silk
end Go.Ab.Try
set_option linter.unusedSimpArgs false
set_option linter.unusedVariables false
namespace Go.Ab.Try
open Go.Ab.Silk
end Go.Ab.Try
set_option linter.unusedSimpArgs false
set_option linter.unusedVariables false
namespace Go.Ab.Try
open Go.Ab.Silk
section
variable {m : Ml}
def oth (f : Int → Int) (k : Int) : Nat → Int
  | 0 => 0
  | j + 1 => oth f k j + (if (j : Int) = k then 0 else f (j : Int))
end
end Go.Ab.Try
set_option linter.unusedSimpArgs false
set_option linter.unusedVariables false
namespace Go.Ab.Try
open Go.Ab.Silk
theorem check_good {m : Ml} (g : Good m) : check m = 0 := by
  have h1 := g.lots
  have h2 := g.wgs
  have h3 := g.errs
  have c4 : m.wgs.all boundedW = true := List.all_eq_true.2 fun w hw => by simpa [boundedW] using g.wg w hw
  have c5 : m.lots.all (fun l => allowedK l.kind) = true := List.all_eq_true.2 fun l hl => by simpa [allowedK] using g.kind l hl
  have c6 : fromsOk m.lots 0 = true := (fromsOk_iff _ _).2 fun i hi => by simpa using g.frm i hi
  have c7 : m.wgs.all (fun w => inB w.lot 0 ((m.lots.length : Int) - 1)) = true := List.all_eq_true.2 fun w hw => by simpa [inB] using g.lot w hw
  have c8 : m.wgs.all (fun w => decide (w.lo ≤ w.hi)) = true := List.all_eq_true.2 fun w hw => by simpa using g.ord w hw
  unfold check
  rw [if_neg (by omega), if_neg (by omega), if_neg (by omega), c4, c5, c6, c7, c8]
  rfl
end Go.Ab.Try
set_option linter.unusedSimpArgs false
set_option linter.unusedVariables false
namespace Go.Ab.Try
open Go.Ab.Silk
theorem agreeB_true {m : Ml} {c : Nat → Bool} : agreeB m c = true ↔ ∃ w, FeasM m c w := by unfold agreeB; simp
theorem agree_mono {m : Ml} (g : Good m) {c c' : Nat → Bool} (h : ∀ k, k < m.wgs.length → c k = true → c' k = true) (a : agreeB m c' = true) : agreeB m c = true := by
  obtain ⟨w, f1, f2⟩ := agreeB_true.1 a
  have := (own_iff g).1 f1
  exact agreeB_true.2 ⟨w, (own_iff g).2 ⟨this.1, fun k hk hc => this.2 k hk (h k hk hc)⟩, f2⟩
theorem agree_right {e : Int} {l : List Lt} {wg wg' : List Wg} {r : Int → Int} {D : Int} (R : RealM ⟨e, l, wg⟩ r D) (hD : D ≤ 10000) (g : Good ⟨e, l, wg'⟩) {c : Nat → Bool} (h : ∀ k (hk : k < wg'.length), c k = true → rightM e wg'[k] (r wg'[k].lot) = true) : agreeB ⟨e, l, wg'⟩ c = true := by
  refine agreeB_true.2 ⟨r, (own_iff g).2 ⟨fun i i0 i1 => by have := R.lim i i0 i1; omega, fun k hk hc => ?_⟩, R.feas.2⟩
  have hk' : k < wg'.length := hk
  show sayLo ⟨e, l, wg'⟩ wg'[k] ≤ r wg'[k].lot ∧ r wg'[k].lot ≤ sayHi ⟨e, l, wg'⟩ wg'[k]
  have hm := List.getElem_mem hk'
  have b1 := g.lot _ hm
  have b2 := g.wg _ hm
  have b3 := g.errs
  simp only at b1 b3
  have := R.lim wg'[k].lot b1.1 (by simp only; omega)
  have e5 := right_iff (m := ⟨e, l, wg'⟩) (w := wg'[k]) (k := r wg'[k].lot) b2.2.1.1 b2.2.2.1 (by simp only; omega) (by omega)
  rw [show (Ml.mk e l wg').errs = e from rfl, h k hk' hc] at e5
  exact of_decide_eq_true e5.symm
theorem Inc_up {hi hi' : Int} (hh : hi ≤ hi') : ∀ {i : Int} {l : List Int}, Inc hi i l → Inc hi' i l
  | _, [], _ => trivial
  | _, _ :: _, h => ⟨h.1, by have := h.2.1; omega, Inc_up hh h.2.2⟩
theorem Inc_snoc {hi a : Int} (ha : a < hi) : ∀ {i : Int} {l : List Int}, Inc a i l → i ≤ a → Inc hi i (l ++ [a])
  | _, [], _, h => ⟨h, ha, trivial⟩
  | _, b :: l, h, h2 => ⟨h.1, by have := h.2.1; omega, Inc_snoc ha h.2.2 (by have := h.2.1; omega)⟩
theorem lst_inc (c : Nat → Bool) : ∀ n : Nat, Inc n 0 (lst c n)
  | 0 => trivial
  | n + 1 => by
    have ih := lst_inc c n
    simp only [lst]
    split
    · exact Inc_snoc (by omega) ih (by omega)
    · rw [List.append_nil]; exact Inc_up (by omega) ih
theorem Inc_pw {hi : Int} : ∀ {i : Int} {l : List Int}, Inc hi i l → l.Pairwise (· < ·)
  | _, [], _ => List.Pairwise.nil
  | _, a :: l, h => List.Pairwise.cons (fun x hx => by have := (h.2.2.mem x hx).1; omega) (Inc_pw h.2.2)
theorem Inc_erase {hi : Int} : ∀ {i : Int} {l : List Int} (k : Nat), Inc hi i l → Inc hi i (l.eraseIdx k)
  | _, [], _, h => by simpa using h
  | _, a :: l, 0, h => by rw [List.eraseIdx_cons_zero]; exact h.2.2.lower (by have := h.1; omega)
  | _, a :: l, k + 1, h => by rw [List.eraseIdx_cons_succ]; exact ⟨h.1, h.2.1, Inc_erase k h.2.2⟩
theorem dup_none {l : List Int} (h : l.Pairwise (· < ·)) : ∀ k, k ≤ l.length → dupAt l k = false
  | 0, _ => rfl
  | k + 1, hk => by
    rw [dupAt_step hk, dup_none h k (by omega), Bool.false_or, decide_eq_false_iff_not]
    intro hm
    obtain ⟨j, hj, e⟩ := List.mem_iff_getElem.1 hm
    rw [List.getElem_take] at e
    rw [List.length_take] at hj
    have := List.pairwise_iff_getElem.1 h j k (by omega) hk (by omega)
    omega
theorem listE_inc {m : Ml} (c : check m = 0) {l : List Int} (h : Inc m.wgs.length 0 l) : listE m l = 0 := by
  have hk : knownB m l = true := List.all_eq_true.2 fun n hn => by
    have := h.mem n hn
    simp only [inB, decide_eq_true_eq]; omega
  unfold listE
  rw [if_neg (by simp [c]), if_neg (by rw [hk]; simp), if_neg (by rw [dup_none (Inc_pw h) _ (Nat.le_refl _)]; simp)]
theorem wrong_nil {m : Ml} (g : Good m) (a : agreeB m allC = true) : firstOf (wrongP m) m.wgs.length (m.wgs.length + 1) 0 = some [] := by
  have : wrongP m [] = true := agree_mono g (fun _ _ _ => rfl) a
  simp [firstOf, comb, this]
theorem clash_none {m : Ml} (g : Good m) (a : agreeB m allC = true) : firstOf (clashP m) m.wgs.length (m.wgs.length + 1) 0 = none := by
  rcases firstOf_spec (clashP m) m.wgs.length (m.wgs.length + 1) 0 (by omega) (fun d _ h => by omega) with ⟨c, _, h⟩ | ⟨h, _⟩
  · have h1 := h.holds
    have : agreeB m (inL c false) = true := agree_mono g (fun _ _ _ => rfl) a
    simp [clashP, this] at h1
  · exact h
theorem min_len {P : List Int → Bool} {W : Nat} {c d : List Int} (h : IsMin P W c) (hd : Inc W 0 d) (hp : P d = true) : c.length ≤ d.length := by
  rcases h.min d hd hp with rfl | hb
  · exact Nat.le_refl _
  · unfold before at hb
    split at hb
    · omega
    · have := of_decide_eq_true hb; omega
theorem wrong_le {m : Ml} {l : List Int} (h : IsMin (wrongP m) m.wgs.length l) {b : Nat → Bool} (ha : ∀ c : Nat → Bool, (∀ k, k < m.wgs.length → c k = true → b k = false) → agreeB m c = true) : l.length ≤ (lst b m.wgs.length).length := by
  refine min_len h (lst_inc _ _) (ha _ fun k hk hc => ?_)
  unfold inL at hc
  cases hb : b k
  · rfl
  · have : (k : Int) ∈ lst b m.wgs.length := (mem_lst _ _ _).2 ⟨hk, hb⟩
    rw [decide_eq_true this] at hc; cases hc
theorem wrong_ok {m : Ml} (g : Good m) {l : List Int} (h : IsMin (wrongP m) m.wgs.length l) : agreeB m (inL (lst (inL l true) m.wgs.length) false) = true := by
  have h1 := h.holds
  unfold wrongP at h1
  refine (agreeB_congr fun j hj => ?_).trans h1
  have := mem_lst (inL l true) j m.wgs.length
  cases hc : inL l true j
  · rw [hc] at this
    have hn : ¬ (j : Int) ∈ lst (inL l true) m.wgs.length := fun hm => by simpa using this.1 hm
    simp [inL, hn]
  · rw [hc] at this
    simp [inL, this.2 ⟨hj, rfl⟩]
theorem clash_wrong {m : Ml} (g : Good m) {l : List Int} (h : IsMin (wrongP m) m.wgs.length l) : (firstOf (clashP m) m.wgs.length (m.wgs.length + 1) 0 = none ∧ l = []) ∨
    ∃ c, firstOf (clashP m) m.wgs.length (m.wgs.length + 1) 0 = some c ∧ IsMin (clashP m) m.wgs.length c ∧ 0 < l.length ∧ ∃ i ∈ c, i ∈ l := by
  rcases firstOf_spec (clashP m) m.wgs.length (m.wgs.length + 1) 0 (by omega) (fun d _ h => by omega) with ⟨c, hc, hm⟩ | ⟨hn, ha⟩
  · have h1 := hm.holds
    have h2 : agreeB m (inL c false) = false := by
      unfold clashP at h1
      cases ha : agreeB m (inL c false)
      · rfl
      · rw [ha] at h1; cases h1
    have h3 := h.holds
    unfold wrongP at h3
    have hit : ∃ i ∈ c, i ∈ l := by
      refine Classical.byContradiction fun hno => ?_
      have : agreeB m (inL c false) = true := agree_mono g (fun k hk hc => ?_) h3
      · rw [h2] at this; cases this
      · have hk1 : (k : Int) ∈ c := by
          unfold inL at hc
          by_cases e : (k : Int) ∈ c
          · exact e
          · rw [decide_eq_false e] at hc; cases hc
        have hk2 : ¬ (k : Int) ∈ l := fun e => hno ⟨_, hk1, e⟩
        simp [inL, hk2]
    obtain ⟨i, i1, i2⟩ := hit
    exact .inr ⟨c, hc, hm, List.length_pos_iff.2 (fun e => by rw [e] at i2; cases i2), i, i1, i2⟩
  · refine .inl ⟨hn, ?_⟩
    have h1 := ha (lst (fun _ => true) m.wgs.length) (lst_inc _ _)
    have h2 : agreeB m allC = true := by
      unfold clashP at h1
      have h3 : agreeB m (inL (lst (fun _ => true) m.wgs.length) false) = true := by
        cases hc : agreeB m (inL (lst (fun _ => true) m.wgs.length) false)
        · rw [hc] at h1; cases h1
        · rfl
      refine agree_mono g (fun k hk _ => ?_) h3
      simp [inL, (mem_lst (fun _ => true) k m.wgs.length).2 ⟨hk, rfl⟩]
    have h4 := min_len h (d := []) trivial (agree_mono g (fun _ _ _ => rfl) h2)
    exact List.length_eq_zero_iff.1 (by simpa using h4)
theorem clash_less {m : Ml} {c : List Int} (h : IsMin (clashP m) m.wgs.length c) {k : Nat} (hk : k < c.length) : agreeB m (inL (c.eraseIdx k) false) = true := by
  cases ha : agreeB m (inL (c.eraseIdx k) false)
  · have := min_len h (Inc_erase k h.inc) (by unfold clashP; rw [ha]; rfl)
    rw [List.length_eraseIdx_of_lt hk] at this; omega
  · rfl
end Go.Ab.Try
set_option linter.unusedSimpArgs false
set_option linter.unusedVariables false
namespace Go.Ab
namespace Try
open Go.Ab.Silk
end Try
end Go.Ab
set_option linter.unusedSimpArgs false
set_option linter.unusedVariables false
namespace Go.Ab
noncomputable def slcM (h : H) (sz : Nat) (x lo hi mx : V) : Option V := q_slc .nil h sz x (some (.c lo)) (some (.c hi)) (some (.c mx))
theorem q_slc_m (tm : T V) (h : H) (sz : Nat) (x : V) (lo hi mx : Opd) : q_slc tm h sz x (some lo) (some hi) (some mx) = slcM h sz x (lo.ev tm) (hi.ev tm) (mx.ev tm) := rfl
noncomputable def slcB (h : H) (sz : Nat) (x lo hi : V) : Option V := q_slc .nil h sz x (some (.c lo)) (some (.c hi)) none
theorem q_slc_b (tm : T V) (h : H) (sz : Nat) (x : V) (lo hi : Opd) : q_slc tm h sz x (some lo) (some hi) none = slcB h sz x (lo.ev tm) (hi.ev tm) := rfl
theorem CutC.rest {h : H} {b sz j : Nat} {rows : List (List V)} {rest : List V} (hsz : ∀ r ∈ rows, r.length = sz) (hl : rows.length ≤ 1000000) (hb : h.get b = some (.cells (.gr sz) (rows.flatten ++ rest))) (hr : rest.length = j * sz) :
    CutC h (.sl b 0 rows.length (.slk 0 0)) sz rows := by
  have fl := flatten_len hsz
  refine ⟨⟨hsz, by omega, .inr ⟨b, 0, _, _, rfl, .inr (cells_of hb), getN_eq.2 ⟨?_, ?_⟩⟩⟩, .inr (.inl ⟨b, rest, j, rfl, hb, hr⟩)⟩
  · rw [List.drop_zero, ← fl, List.take_left']; rfl
  · rw [List.length_append, fl]; omega
namespace Try
open Go.Ab.Silk
theorem less_ev (a b : Int) (h : H) (Q : V → H → Prop) : Ev fnG fastA (.fn 120 [] []) [.int .i64 a, .int .i64 b] h Q = Q (.bool (decide (a < b))) h := by
  have hn : ∀ (a : Int) (R : V → H → Prop), Ev fnG fastA (.fn 150 [] []) [.int .i64 a] h R = R (.bool false) h := fun a R => by
    refine Ev.det (Ev_body (fd := c150) rfl rfl rfl ?_) R
    simp -implicitDefEqProofs (maxSteps := 999999) (disch := first | with_reducible rfl | omega | (simp only [nA, nS, nD] <;> omega) | fail) only [c150, go_sem, ne_eq, not_true_eq_false, not_false_eq_true]
  refine Ev.det (Ev_body (fd := c120) rfl rfl rfl ?_) Q
  simp -implicitDefEqProofs (maxSteps := 999999) (disch := first | with_reducible rfl | omega | (simp only [nA, nS, nD] <;> omega) | fail) only [c120, go_sem, hn]
theorem isSorted_ev {h : H} {x : V} {l : List Int} (hx : SlAt h x 1 (l.map encI)) (hp : l.Pairwise (· < ·)) (Q : V → H → Prop) : Ev fnG fastA (.fn 60 [] []) [x] h Q = Q (.bool true) h := by
  have hlx := hx.lenE
  have hbd := hx.boundE
  refine Ev.det (Ev_body (fd := c60) rfl rfl rfl ?_) Q
  have ew0 : wr .i64 ((l.length : Int) - 1) = (l.length : Int) - 1 := wr_in (by omega) (by omega)
  simp -implicitDefEqProofs (maxSteps := 999999) (disch := first | with_reducible rfl | omega | (simp only [nA, nS, nD] <;> omega) | fail) only [c60, go_sem, hlx]
  refine W_loop (fun k s => ∃ (tm : Go.Ab.T V) (i : Int), s = ⟨tm, h, []⟩ ∧ k = (i + 1).toNat ∧ -1 ≤ i ∧ i < l.length ∧ (i = -1 → l.length = 0) ∧ (Opd.t 0).ev tm = x ∧ (Opd.t 3).ev tm = .int .i64 i) ?_ l.length _ ⟨_, (l.length : Int) - 1, rfl, by omega, by omega, by omega, by omega, (by simp [ev_c, ev_put] <;> rfl), (by simp [ev_c, ev_put, ew0] <;> rfl)⟩
  rintro k s ⟨tm, i, rfl, hk, i0, i1, i2, t0, t3⟩
  by_cases hi : 0 < i
  · obtain ⟨n, rfl⟩ : ∃ n : Nat, i = ((n + 1 : Nat) : Int) := ⟨(i - 1).toNat, by omega⟩
    have hn1 : n + 1 < l.length := by omega
    have hn0 : n < l.length := by omega
    obtain ⟨b1, o1, c1, cs1, rfl, hc1, hq1, hg1, hn1', hn01⟩ := hx.at hn1
    obtain ⟨b2, o2, c2, cs2, e2, hc2, hq2, hg2, hn2', hn02⟩ := hx.at hn0
    have hlt := List.pairwise_iff_getElem.1 hp n (n + 1) hn0 hn1 (by omega)
    have hnl : ¬ l[n + 1] < l[n] := by omega
    have ew : wr .i64 (((n + 1 : Nat) : Int) - 1) = (n : Int) := by rw [wr_in (by omega) (by omega)]; omega
    simp -implicitDefEqProofs (maxSteps := 999999) (disch := first | with_reducible rfl | omega | (simp only [nA, nS, nD] <;> omega) | fail) only [go_sem, t0, t3, hi, hq1 (nat_cst (n + 1)), hc1, hn01 (by omega), ew, hq2 (nat_cst n), hc2, hn02 (by omega), encI, less_ev, hnl]
    exact ⟨n + 1, by omega, _, (n : Int), rfl, by omega, by omega, by omega, by omega, (by simp [ev_c, ev_put, t0] <;> rfl), (by simp [ev_c, ev_put, ew] <;> rfl)⟩
  · simp -implicitDefEqProofs (maxSteps := 999999) (disch := first | with_reducible rfl | omega | (simp only [nA, nS, nD] <;> omega) | fail) only [go_sem, t0, t3, hi]
theorem flatI : ∀ l : List Int, (l.map encI).flatten = l.map iv
  | [] => rfl
  | a :: l => by rw [List.map_cons, List.flatten_cons, flatI l]; rfl
theorem cloneGr_ev {h : H} {x : V} {l : List Int} (hw : h.wf) (hx : SlAt h x 1 (l.map encI)) (hl : l.length ≤ 1000000) (h0 : 0 < l.length) (Q : V → H → Prop) (q : ∀ b h', h.Sub h' → h.next ≤ b → h'.get b = some (.cells (.gr 1) (l.map iv)) → Q (.sl b 0 l.length (.slk 0 0)) h') : Ev fnG fastA (.fn 63 [] []) [x] h Q := by
  refine Ev_body (fd := c63) rfl rfl rfl ?_
  rcases hx.2.2 with ⟨rfl, e⟩ | ⟨b, o, c, cs, rfl, _⟩
  · have := congrArg List.length e; simp at this; rw [this] at h0; simp at h0
  · simp -implicitDefEqProofs (maxSteps := 999999) (disch := first | with_reducible rfl | omega | (simp only [nA, nS, nD] <;> omega) | fail) only [c63, go_sem]
    have s1 : h.Sub (h.add (.cells .rw [])) := (H.Sub.refl hw).add _
    have hx1 := (hx.mono s1).elems
    rw [flatI, List.length_map] at hx1
    rw [List.length_map]
    obtain ⟨k, hk⟩ : ∃ k, l.length = k + 1 := ⟨l.length - 1, by omega⟩
    rw [e_app_eq, hx1.1, hx1.2]
    simp only [ob_some]
    rw [hk, e_app_full (by omega) (elems_0 _ _ _ _ _) (by simp only [Nat.zero_add]; omega) (by omega), grown_eq, P2_some]
    simp -implicitDefEqProofs (maxSteps := 999999) (disch := first | with_reducible rfl | omega | (simp only [nA, nS, nD] <;> omega) | fail) only [go_sem]
    have := q (h.next + 1) ((h.add (.cells .rw [])).add (.cells (.gr 1) (l.map iv))) (s1.add _) (by omega) (get_add_new (by rw [H.next_add]))
    rw [hk] at this
    simpa using this
theorem erase_take {l : List Int} {k : Nat} : l.eraseIdx k = l.take k ++ l.drop (k + 1) := List.eraseIdx_eq_take_drop_succ l k
set_option maxHeartbeats 1000000 in
theorem delete_ev {h : H} {b : Nat} {l : List Int} {k : Nat} (hw : h.wf) (hb : h.get b = some (.cells (.gr 1) (l.map iv))) (hk : k < l.length) (hl : l.length ≤ 1000000) (Q : V → H → Prop)
    (q : ∀ h', Keeps (fun c => c = b) h h' → h'.wf → h'.get b = some (.cells (.gr 1) ((l.eraseIdx k).map iv ++ [iv 0])) → Q (.sl b 0 (l.eraseIdx k).length (.slk 0 0)) h') : Ev fnG fastA (.fn 62 [] []) [.sl b 0 l.length (.slk 0 0), .int .i64 (k : Int), .int .i64 ((k + 1 : Nat) : Int)] h Q := by
  have lb := hw _ _ hb
  have hel : (l.eraseIdx k).length = l.length - 1 := List.length_eraseIdx_of_lt hk
  have hi : ∀ (n : Nat) tm, (Opd.c (.int .i64 (n : Int))).ev tm = .int .i64 (n : Int) := fun _ _ => rfl
  have b1 : Nat.ble k (k + 1) = true := by simp
  have b2 : Nat.ble (k + 1) l.length = true := by simp; omega
  have b3 : Nat.ble l.length l.length = true := by simp
  have b4 : Nat.blt 0 l.length = true := by rw [Nat.blt_eq]; omega
  have b5 : Nat.beq 1 1 = true := rfl
  have b6 : Nat.beq 0 (0 * 1) = true := rfl
  have b7 : Nat.ble 0 k = true := by simp
  have b8 : Nat.ble k l.length = true := by simp; omega
  have b9 : Nat.blt 0 (l.length + k) = true := by rw [Nat.blt_eq]; omega
  have b10 : Nat.blt 0 (l.length + l.length) = true := by rw [Nat.blt_eq]; omega
  have lm : (l.map iv).length = l.length := List.length_map ..
  have ok : slkOk h b 0 0 l.length 1 = true := by
    have : Nat.ble (0 + l.length * 1) (l.map iv).length = true := by simp
    simp only [slkOk, hb, b5, b6, lenN_eq, this]
  have rm : slkRoom h b 0 1 = l.length := by simp [slkRoom, hb, lenN_eq]
  have e1 : slcM h 1 (.sl b 0 l.length (.slk 0 0)) (.int .i64 (k : Int)) (.int .i64 ((k + 1 : Nat) : Int)) (.int .i64 (l.length : Int)) = some (sub b 0 1 (k, k + 1, l.length)) := by
    simp only [slcM, q_slc, ok, og_true, b4, bnd3, natO, hi, natk_cst, bnds, b1, b2, b3, subO]
  have e2 : slcTo h 1 (.sl b 0 l.length (.slk 0 0)) (.int .i64 (k : Int)) = some (.sl b 0 k (.slk 0 0)) := by
    simp only [slcTo, q_slc, ok, og_true, rm, bnd3, natO, hi, natk_cst, bnds, b3, b7, b8, subS, b9, Nat.sub_zero, Nat.zero_mul, Nat.add_zero]
  have e3 : slcFrom h 1 (.sl b 0 l.length (.slk 0 0)) (.int .i64 ((k + 1 : Nat) : Int)) = some (.sl b (k + 1) (l.length - (k + 1)) (.slk (k + 1) 0)) := by
    simp only [slcFrom, q_slc, ok, og_true, rm, bnd3, natO, hi, natk_cst, bnds, b3, b2, subS, b10, Nat.mul_one, Nat.zero_add]
  have hne : ¬ (k : Int) = ((k + 1 : Nat) : Int) := by omega
  refine Ev_body (fd := c62) rfl rfl rfl ?_
  -- the heap behind the append
  have key : ∃ h2, e_app' h 1 8 (.sl b 0 k (.slk 0 0)) (.sl b (k + 1) (l.length - (k + 1)) (.slk (k + 1) 0)) = some (.sl b 0 (l.length - 1) (.slk 0 0), h2) ∧ Keeps (fun c => c = b) h h2 ∧ h2.wf ∧ ∃ y, h2.get b = some (.cells (.gr 1) ((l.eraseIdx k).map iv ++ [iv y])) := by
    rw [e_app_eq]
    cases hn : l.length - (k + 1) with
    | zero =>
      have hk1 : k = l.length - 1 := by omega
      have hok : slkOk h b 0 0 k 1 = true := by
        have : Nat.ble (0 + k * 1) (l.map iv).length = true := by simp; omega
        simp only [slkOk, hb, b5, b6, lenN_eq, this]
      refine ⟨h, ?_, Keeps.refl _ _, hw, l[k], ?_⟩
      · simp only [elems, ob_some, lenV_sl, e_app, hok, og_true]
        rw [hk1]
      · rw [hb, erase_take]
        have hd : l.drop (k + 1) = [] := List.drop_eq_nil_of_le (by omega)
        have : l = l.take k ++ [l[k]] := by
          have h1 := (List.take_append_drop k l).symm
          rw [List.drop_eq_getElem_cons hk, hd] at h1; exact h1
        rw [hd, List.append_nil]
        have h2 := congrArg (List.map iv) this
        rw [List.map_append] at h2
        rw [h2]; rfl
    | succ j =>
      have hj : l.length = k + 1 + (j + 1) := by omega
      have hd : (l.drop (k + 1)).length = j + 1 := by simp; omega
      have hget : getN (k + 1) ((j + 1) * 1) (l.map iv) = some ((l.drop (k + 1)).map iv) := getN_eq.2 ⟨by rw [Nat.mul_one, ← List.map_drop, List.take_of_length_le (by rw [List.length_map, hd]; exact Nat.le_refl _)], by simp; omega⟩
      have f1 : Nat.ble (0 + (k + (j + 1)) * 1) (l.map iv).length = true := by simp; omega
      have hone : allOne ((l.drop (k + 1)).map iv) = true := by
        rw [allOne_eq]; intro v hv; obtain ⟨_, _, rfl⟩ := List.mem_map.1 hv; rfl
      obtain ⟨v, vs, hv⟩ : ∃ v vs, (l.drop (k + 1)).map iv = v :: vs := by
        cases e : (l.drop (k + 1)).map iv with
        | nil => have := congrArg List.length e; simp at this; omega
        | cons v vs => exact ⟨v, vs, rfl⟩
      have hlast : l.length - 1 < l.length := by omega
      have hp : putN (0 + k * 1) ((l.drop (k + 1)).map iv) (l.map iv) = some ((l.eraseIdx k).map iv ++ [iv l[l.length - 1]]) := by
        have e0 : l.map iv = (l.take k).map iv ++ ((l.drop k).take (j + 1)).map iv ++ [iv l[l.length - 1]] := by
          have h1 : l = l.take k ++ ((l.drop k).take (j + 1) ++ (l.drop k).drop (j + 1)) := by rw [List.take_append_drop, List.take_append_drop]
          have h2 : (l.drop k).drop (j + 1) = [l[l.length - 1]] := by
            rw [List.drop_drop, show k + (j + 1) = l.length - 1 by omega, List.drop_eq_getElem_cons hlast, List.drop_eq_nil_of_le (by omega)]
          rw [h2] at h1
          conv => lhs; rw [h1]
          simp
        have := putN_app (pre := (l.take k).map iv) (new := (l.drop (k + 1)).map iv) (old := ((l.drop k).take (j + 1)).map iv) (rest := [iv l[l.length - 1]]) (by simp; omega)
        rw [← e0] at this
        rw [show 0 + k * 1 = ((l.take k).map iv).length by simp; omega, this, erase_take, List.map_append]
      have hp2 := H.put_gr (h := h) (b := b) (by rw [← hv]; exact hone) hb (by rw [← hv]; exact hp)
      rw [← hv] at hp2
      refine ⟨_, ?_, Keeps.set h b _, H.wf_set hw _ hb, l[l.length - 1], get_set_same rfl⟩
      simp only [elems, cells_of hb, hget, ob_some, lenV_sl, e_app, appSlk, hb, b5, b6, og_true, lenN_eq, f1, hp2, withV_some]
      rw [show k + (j + 1) = l.length - 1 by omega]
  obtain ⟨h2, ka, k2, w2, y, g2⟩ := key
  have lm2 : ((l.eraseIdx k).map iv ++ [iv y]).length = l.length := by simp [hel]; omega
  have ok2 : slkOk h2 b 0 0 (l.length - 1) 1 = true := by
    have : Nat.ble (0 + (l.length - 1) * 1) ((l.eraseIdx k).map iv ++ [iv y]).length = true := by rw [lm2]; simp
    simp only [slkOk, g2, b5, b6, lenN_eq, this]
  have rm2 : slkRoom h2 b 0 1 = l.length := by simp [slkRoom, g2, lenN_eq, hel]; omega
  have c1 : Nat.ble (l.length - 1) l.length = true := by simp
  have c2 : Nat.blt 0 (l.length - 1 + l.length) = true := by rw [Nat.blt_eq]; omega
  have e4 : slcB h2 1 (.sl b 0 (l.length - 1) (.slk 0 0)) (.int .i64 ((l.length - 1 : Nat) : Int)) (.int .i64 (l.length : Int)) = some (.sl b (l.length - 1) 1 (.slk (l.length - 1) 0)) := by
    simp only [slcB, q_slc, ok2, og_true, rm2, bnd3, natO, hi, natk_cst, bnds, c1, b3, subS, c2, Nat.mul_one, Nat.zero_add]
    rw [show l.length - (l.length - 1) = 1 by omega]
  have hp3 : putN (l.length - 1) [iv 0] ((l.eraseIdx k).map iv ++ [iv y]) = some ((l.eraseIdx k).map iv ++ [iv 0]) := by
    have := putN_app (pre := (l.eraseIdx k).map iv) (new := [iv 0]) (old := [iv y]) (rest := []) rfl
    simpa [hel] using this
  have e5 : e_clr h2 [.int .i64 0] (.sl b (l.length - 1) 1 (.slk (l.length - 1) 0)) = some (.und, h2.set b (.cells (.gr 1) ((l.eraseIdx k).map iv ++ [iv 0]))) := by
    have hr : repN 1 [V.int .i64 0] = [iv 0] := rfl
    rw [e_clr_sl, hr, H.put_gr (by rfl) g2 hp3, withV_some]
  simp -implicitDefEqProofs (maxSteps := 999999) (disch := first | with_reducible rfl | omega | (simp only [nA, nS, nD] <;> omega) | fail) only [c62, go_sem, q_slc_m, q_slc_to, q_slc_from, q_slc_b, e1, hne, e2, e3, ka, e4, e5, evQ_slc]
  rw [← hel]
  exact q _ ((k2.trans (Keeps.set h2 b _)).mono fun c h => h.elim id id) (H.wf_set w2 _ g2) (get_set_same rfl)
end Try
end Go.Ab
set_option linter.unusedSimpArgs false
set_option linter.unusedVariables false
namespace Go.Ab
theorem PBd_cutB {Fn : Nat → Option FD} {fast : Nat → Option (List V → H → Option (V × H))} {N : Nat} {fn : FuncId} {ro : Option Nat} {x : Bool} {a b : C} {s : St} {K : X → St → Prop} (I : St → Prop) (ha : x = true → W Fn fast N fn ro a s (Kcut I)) (hb : x = false → W Fn fast N fn ro b s (Kcut I)) (tail : ∀ s', I s' → K .nrm s') :
    PBd (.bool x) (W Fn fast N fn ro a s K) (W Fn fast N fn ro b s K) ⟨⟩ :=
  PBd_intro (fun h => W_cut I (ha h) tail) (fun h => W_cut I (hb h) tail)
namespace Try
open Go.Ab.Silk
def SameW (ws wg : List Wg) : Prop := ws.length = wg.length ∧ ∀ k (h : k < ws.length) (h' : k < wg.length), ws[k].lot = wg[k].lot ∧ ws[k].lo = wg[k].lo ∧ ws[k].hi = wg[k].hi ∧ 0 ≤ ws[k].reads ∧ ws[k].reads ≤ 10000
theorem sameW_refl {m : Ml} (g : Good m) {e : Int} {l : List Lt} {wg : List Wg} (em : m = ⟨e, l, wg⟩) : SameW wg wg := by
  subst em
  exact ⟨rfl, fun k hk _ => ⟨rfl, rfl, rfl, (g.wg _ (List.getElem_mem hk)).1⟩⟩
theorem wg_put (l : List Wg) {k : Nat} (hk : k < l.length) (n : Int) : putN (k * 4 + 1) [.int .i64 n] (l.map encW).flatten = some ((l.set k ⟨l[k].lot, n, l[k].lo, l[k].hi⟩).map encW).flatten := by
  have e : l = l.take k ++ l[k] :: l.drop (k + 1) := by rw [List.getElem_cons_drop, List.take_append_drop]
  have e2 : l.set k ⟨l[k].lot, n, l[k].lo, l[k].hi⟩ = l.take k ++ ⟨l[k].lot, n, l[k].lo, l[k].hi⟩ :: l.drop (k + 1) := by rw [List.set_eq_take_append_cons_drop, if_pos hk]
  have hl : ((l.take k).map encW).flatten.length = k * 4 := by
    have h1 := flatten_len (sz := 4) (rows := (l.take k).map encW) fun r hr => by obtain ⟨x, _, rfl⟩ := List.mem_map.1 hr; rfl
    rw [h1, List.length_map, List.length_take, Nat.min_eq_left (by omega)]
  have f1 := congrArg (fun t => (t.map encW).flatten) e
  have f2 := congrArg (fun t => (t.map encW).flatten) e2
  simp only [List.map_append, List.map_cons, List.flatten_append, List.flatten_cons] at f1 f2
  rw [f1, f2]
  have := putN_app (pre := ((l.take k).map encW).flatten ++ [.int .i64 l[k].lot]) (new := [.int .i64 n]) (old := [.int .i64 l[k].reads]) (rest := [.int .i64 l[k].lo, .int .i64 l[k].hi] ++ ((l.drop (k + 1)).map encW).flatten) rfl
  rw [List.length_append, hl] at this
  simpa [encW] using this
def badAt (e : Int) (r : Int → Int) (ws : List Wg) (k : Nat) : Bool := match ws[k]? with | some w => !rightM e w (r w.lot) | none => false
theorem SameW.set {ws wg : List Wg} (h : SameW ws wg) {i : Nat} (hi : i < ws.length) {n : Int} (hn : 0 ≤ n ∧ n ≤ 10000) : SameW (ws.set i ⟨ws[i].lot, n, ws[i].lo, ws[i].hi⟩) wg := by
  obtain ⟨h1, h2⟩ := h
  refine ⟨by rw [List.length_set]; exact h1, fun k hk hk' => ?_⟩
  rw [List.length_set] at hk
  rw [List.getElem_set]
  by_cases e : i = k
  · subst e
    rw [if_pos rfl]
    have := h2 i hk hk'
    exact ⟨this.1, this.2.1, this.2.2.1, hn⟩
  · rw [if_neg e]; exact h2 k hk hk'
theorem SameW.good {e : Int} {l : List Lt} {ws wg : List Wg} (h : SameW ws wg) (g : Good ⟨e, l, wg⟩) : Good ⟨e, l, ws⟩ := by
  obtain ⟨h1, h2⟩ := h
  have key : ∀ w ∈ ws, ∃ w' ∈ wg, w.lot = w'.lot ∧ w.lo = w'.lo ∧ w.hi = w'.hi ∧ 0 ≤ w.reads ∧ w.reads ≤ 10000 := fun w hw => by
    obtain ⟨k, hk, rfl⟩ := List.getElem_of_mem hw
    exact ⟨_, List.getElem_mem (by omega), h2 k hk (by omega)⟩
  refine ⟨g.lots, by have := g.wgs; simp only at this ⊢; omega, g.errs, fun w hw => ?_, g.kind, g.frm, fun w hw => ?_, fun w hw => ?_⟩
  · obtain ⟨w', m, e1, e2, e3, e4⟩ := key w hw
    have := g.wg w' m
    exact ⟨e4, by rw [e2]; exact this.2.1, by rw [e3]; exact this.2.2⟩
  · obtain ⟨w', m, e1, _⟩ := key w hw
    have := g.lot w' m
    rw [e1]; exact this
  · obtain ⟨w', m, e1, e2, e3, _⟩ := key w hw
    have := g.ord w' m
    rw [e2, e3]; exact this
theorem bad_step (e : Int) (r : Int → Int) {ws : List Wg} {i : Nat} (hi : i < ws.length) : (lst (badAt e r ws) (i + 1)).length = (lst (badAt e r ws) i).length + if rightM e ws[i] (r ws[i].lot) = true then 0 else 1 := by
  have : badAt e r ws i = !rightM e ws[i] (r ws[i].lot) := by unfold badAt; rw [List.getElem?_eq_getElem hi]
  simp only [lst, List.length_append, this]
  cases rightM e ws[i] (r ws[i].lot) <;> simp
theorem bad_congr (e : Int) (r : Int → Int) {ws ws' : List Wg} {i : Nat} (h : ∀ k, k < i → ws'[k]? = ws[k]?) : lst (badAt e r ws') i = lst (badAt e r ws) i := lst_congr fun k hk => by unfold badAt; rw [h k hk]
set_option maxRecDepth 20000 in
set_option maxHeartbeats 4000000 in
theorem SilkWrong_ev {h : H} {x y : V} {bs cs : List Int} (hw : h.wf) (hx : SlAt h x 1 (bs.map encU8)) (hy : SlAt h y 1 (cs.map encU8)) : Ev fnG fastA (.fn 12 [] []) [x, y] h fun u h' => u = .bool true := by
  refine Ev.gen fun Q q => ?_
  refine Ev_body (fd := c12) rfl rfl rfl ?_
  simp -implicitDefEqProofs (maxSteps := 999999) (disch := first | with_reducible rfl | omega | (simp only [nA, nS, nD] <;> omega) | fail) only [c12, go_sem]
  refine Wound_ev hw hx _ fun h1 s1 p1 n1 => ?_
  simp -implicitDefEqProofs (maxSteps := 999999) (disch := first | with_reducible rfl | omega | (simp only [nA, nS, nD] <;> omega) | fail) only [go_sem]
  refine Wound_ev s1.wf (hy.mono s1) _ fun h2 s12 q2 n2 => ?_
  simp -implicitDefEqProofs (maxSteps := 999999) (disch := first | with_reducible rfl | omega | (simp only [nA, nS, nD] <;> omega) | fail) only [go_sem]
  refine Made_ev (s1.trans s12) hw hx (Nat.le_refl _) (p1.mono s12) (by omega) (lots := 9) (drams := 200) (by omega) (by omega) _ fun e l r L bb h3 T3 he hl hlo hreal s3 p3 hT3 k3 aL L1 hLp hb gb => ?_
  have q3 := q2.keep k3 (by omega)
  have w3 := s3.wf
  have lt3 := w3 _ _ gb
  have n3 := k3.1
  have hL3 : ∀ c, blkOf L c → c < h3.next := SlAt_lt w3 aL (by intro h; rw [List.map_eq_nil_iff] at h; rw [h] at hl; simp at hl)
  have hlp := w3 _ _ (spGet p3)
  have sA := (H.Sub.refl w3).add (.cells .rw [.int .i64 e, L, .nils])
  have gA : (h3.add (.cells .rw [.int .i64 e, L, .nils])).get h3.next = some (.cells .rw [.int .i64 e, L, .nils]) := get_add_new rfl
  have lA : (h3.add (.cells .rw [.int .i64 e, L, .nils])).next = h3.next + 1 := H.next_add _ _
  simp -implicitDefEqProofs (maxSteps := 999999) (disch := first | with_reducible rfl | omega | (simp only [nA, nS, nD] <;> omega) | fail) only [go_sem, L1, cells_one L1]
  generalize h3.add (.cells .rw [.int .i64 e, L, .nils]) = hA at sA gA lA ⊢
  have hrl : ∀ j : Int, 0 ≤ j → j < l.length → 0 ≤ r j ∧ r j ≤ 3600 := fun j j0 j1 => by
    have := (hreal.last (good_made (e := e) (by omega) (by omega) hlo) (by omega)).1 j j0 j1
    omega
  have hbp : bb ≠ h.next := fun e => by subst e; omega
  refine Weighed_ev (s3.trans sA) hw hx (Nat.le_refl _) (p3.mono sA) (by omega) L1 (aL.mono sA) (by omega) (by omega) hbp (fun c hc => (hLp c hc).1) (sA.get gb) (fun j j0 j1 => ⟨(hrl j j0 j1).1, by have := (hrl j j0 j1).2; omega⟩) (most := 6) (by omega) _ fun wg W h4 T4 hwg hwl oW nW p4 hT4 k4 => ?_
  have q4 := (q3.mono sA).keep k4 (by omega)
  have g4 := k4.2 _ _ gA (by omega)
  have l4 := k4.1
  have s4 := oW.1
  have a4 := SlAt_keep (aL.mono sA) k4 fun c hc => (hLp c hc).1
  have aW4 := oW.sl (by simp only [List.length_map]; omega)
  have W1 := OwnC.one oW.c
  have nW4 : ∀ c, blkOf W c → c < h4.next := fun c hc => (oW.blk hc).2.1
  have hm5 : MlIs (h4.set h3.next (.cells .rw [.int .i64 e, L, W])) (.agg [.int .i64 e, L, W]) ⟨e, l, wg⟩ := ⟨L, W, rfl, SlAt_keep a4 (Keeps.set _ _ _) fun c hc e => by have := hL3 c hc; omega, SlAt_keep aW4 (Keeps.set _ _ _) fun c hc e => by have := nW c hc; omega⟩
  have s5 : h.Sub (h4.set h3.next (.cells .rw [.int .i64 e, L, W])) := s4.set (by omega) (by omega) hw _
  have g5 : (h4.set h3.next (.cells .rw [.int .i64 e, L, W])).cells h3.next = some [.int .i64 e, L, W] := cells_set_same rfl
  have l5 : h3.next < (h4.set h3.next (.cells .rw [.int .i64 e, L, W])).next := by rw [H.next_set]; omega
  have q5 : SpAt (h4.set h3.next (.cells .rw [.int .i64 e, L, W])) h1.next y 0 := q4.keep (Keeps.set _ _ _) (by omega)
  have oW5 : OwnSl h (h4.set h3.next (.cells .rw [.int .i64 e, L, W])) W 4 (wg.map encW) := oW.keep (Keeps.set _ _ _) s5 fun c hc e => by have := nW c hc; omega
  have b5 : (h4.set h3.next (.cells .rw [.int .i64 e, L, W])).get bb = some (.cells .rw (tab r l.length)) := by rw [get_set_other (by omega)]; exact k4.2 _ _ (sA.get gb) hbp
  have hlL : q_len L = some (.int .i64 (l.length : Int)) := aL.lenE
  simp -implicitDefEqProofs (maxSteps := 999999) (disch := first | with_reducible rfl | omega | (simp only [nA, nS, nD] <;> omega) | fail) only [go_sem, g4, L1, W1, cells_one L1, cells_one W1, g5, hlL, wr_in]
  generalize h4.set h3.next (.cells .rw [.int .i64 e, L, W]) = h5 at hm5 s5 g5 l5 q5 b5 oW5 ⊢
  have R := realM_of (e := e) (D := 200) (by omega) (by omega) hlo (by omega) hreal hwg hwl.1
  obtain ⟨m, em⟩ : ∃ m : Ml, m = ⟨e, l, wg⟩ := ⟨_, rfl⟩
  rw [← em] at R hm5
  have em1 : m.lots = l := by rw [em]
  have em2 : m.wgs = wg := by rw [em]
  have em3 : m.errs = e := by rw [em]
  have g := R.good
  have c := check_good g
  have gl := g.lots
  have hf : ∃ w, FeasM m allC w := ⟨_, R.feas⟩
  have hoff : vOff (.agg [.int .i64 e, L, W]) (fun c => c = h1.next) := fun e' L' W' e2 => by
    cases e2
    exact ⟨fun c hc e => by have := (hLp c hc).2; omega, fun c hc e => by have := nW c hc; omega⟩
  have hWeq : m.wgs.length = wg.length := by rw [em2]
  have R1 : agreeB m allC = true := agreeB_true.2 hf
  refine (Wrong_ev s5.wf hm5).mono fun u h6 hu => ?_
  obtain ⟨s56, X, l1, e1, rfl, aX, spec⟩ := hu
  rcases spec with ⟨a, _⟩ | ⟨_, hfo, rfl⟩
  · exact absurd c a
  rw [wrong_nil g R1] at hfo
  cases hfo
  have s6 := s5.trans s56
  have g6 := s56.cells g5
  have m6 := hm5.mono s56
  have hlX : q_len X = some (.int .i64 0) := aX.lenE
  simp -implicitDefEqProofs (maxSteps := 999999) (disch := first | with_reducible rfl | omega | (simp only [nA, nS, nD] <;> omega) | fail) only [go_sem, g6, hlX, ne_eq, not_true_eq_false, Int.lt_irrefl]
  refine (Clash_ev s6.wf m6).mono fun u h7 hu => ?_
  obtain ⟨s67, X2, l2, e2, rfl, aX2, spec⟩ := hu
  rcases spec with ⟨a, _⟩ | ⟨_, _, rfl, rfl⟩ | ⟨_, hfo, _⟩
  · exact absurd c a
  case inr.inr => rw [clash_none g R1] at hfo; cases hfo
  have s7 := s6.trans s67
  have g7 := s67.cells g6
  have m7 := m6.mono s67
  have q7 := (q5.mono s56).mono s67
  have b7 := s67.get (s56.get b5)
  have oW7 := (oW5.mono s56).mono s67
  have lt7 := (s56.trans s67).next
  have hlW : q_len W = some (.int .i64 (wg.length : Int)) := (oW7.sl (by simp only [List.length_map]; omega)).lenE
  simp -implicitDefEqProofs (maxSteps := 999999) (disch := first | with_reducible rfl | omega | (simp only [nA, nS, nD] <;> omega) | fail) only [go_sem, g7, hlW, ne_eq, not_true_eq_false]
  have hp1 : ∀ c, blkOf W c → c ≠ h1.next := fun c hc => by have := nW c hc; omega
  have hp3 : ∀ c, blkOf W c → c ≠ h3.next := fun c hc => by have := nW c hc; omega
  have hpb : ∀ c, blkOf W c → c ≠ bb := fun c hc => by have := nW c hc; omega
  have hpL : ∀ c, blkOf L c → ¬ blkOf W c := fun c hL hW => by have := nW c hW; have := hL3 c hL; omega
  refine W_count wg.length (fun i s => ∃ tm h' ws T', s = ⟨tm, h', []⟩ ∧ h.Sub h' ∧ Keeps (fun c => c = h1.next ∨ blkOf W c) h7 h' ∧ SpAt h' h1.next y T' ∧ 0 ≤ T' ∧ T' ≤ 2 * (i : Int) ∧ OwnSl h h' W 4 (ws.map encW) ∧ SameW ws wg ∧ (∀ k, i ≤ k → ws[k]? = wg[k]?) ∧
      (Opd.t 6).ev tm = .ptr h1.next 0 ∧ (Opd.t 7).ev tm = .ptr h3.next 0 ∧ (Opd.t 8).ev tm = .sl bb 0 l.length (.fix l.length) ∧ (Opd.t 13).ev tm = .int .i64 ((lst (badAt e r ws) i).length : Int) ∧ (Opd.t 62).ev tm = W ∧ (Opd.t 63).ev tm = .int .i64 (wg.length : Int) ∧ (Opd.t 64).ev tm = .int .i64 (i : Int))
    ?_ ?_ (i := 0) (Nat.zero_le _) ⟨_, _, wg, 0, rfl, s7, Keeps.refl _ _, q7, by omega, by omega, oW7, sameW_refl g em, fun _ _ => rfl, (by simp [ev_c, ev_put] <;> rfl), (by simp [ev_c, ev_put] <;> rfl), (by simp [ev_c, ev_put] <;> rfl), (by simp [ev_c, ev_put] <;> rfl), (by simp [ev_c, ev_put] <;> rfl), (by simp [ev_c, ev_put] <;> rfl), (by simp [ev_c, ev_put] <;> rfl)⟩
  · rintro i s hi ⟨tm, h', ws, T', rfl, s', K', q', T0, T1, oW', hS, hws, t6, t7, t8, t13, t62, t63, t64⟩
    have hi' : (i : Int) < (wg.length : Int) := by omega
    have hil : i < ws.length := by rw [hS.1]; exact hi
    have hwsl : ws.length ≤ 10 := by have := hS.1; omega
    have aW' := oW'.sl (by simp only [List.length_map]; omega)
    obtain ⟨b, eW, lb1, lb2, hb⟩ := oW'.2.2.resolve_left (fun h => by have := congrArg List.length h.2; simp at this; simp [this] at hil)
    obtain ⟨b', o', c', cs', e', hc', hq', hg', hn', _⟩ := aW'.at hil
    have hbW : blkOf W b := ⟨_, _, _, eW⟩
    have hbW' : blkOf W b' := ⟨_, _, _, e'⟩
    rw [eW] at e'
    injection e' with x1 x2 x3 x4
    subst x1
    subst x2
    have hcs : cs' = (ws.map encW).flatten := by have := cells_of hb; rw [hc'] at this; exact Option.some.inj this
    subst hcs
    obtain ⟨w, ew⟩ : ∃ w, ws[i] = w := ⟨_, rfl⟩
    have hwS := hS.2 i hil hi
    have hgS := hS.good (e := e) (l := l) (em ▸ g)
    have hwg := hgS.wg _ (List.getElem_mem hil)
    have hwl := hgS.lot _ (List.getElem_mem hil)
    rw [ew] at hwS hwg hwl hg'
    simp only at hwl
    obtain ⟨ln, eln⟩ : ∃ ln : Nat, w.lot = (ln : Int) := ⟨w.lot.toNat, by omega⟩
    have hln : ln < l.length := by omega
    have gm := K'.cells g7 (by rintro (h | h); omega; exact hp3 _ h rfl)
    have gb := K'.2 _ _ b7 (by rintro (h | h); omega; exact hpb _ h rfl)
    have lt' := K'.1
    have sA := (H.Sub.refl s'.wf).add (.cells .rw (encW w))
    have gA : (h'.add (.cells .rw (encW w))).get h'.next = some (.cells .rw (encW w)) := get_add_new rfl
    have lA' : (h'.add (.cells .rw (encW w))).next = h'.next + 1 := H.next_add _ _
    have KA : Keeps (fun c => (c = h1.next ∨ blkOf W c) ∨ h7.next ≤ c) h7 (h'.add (.cells .rw (encW w))) := (K'.trans (Keeps.of sA (fun _ => False))).mono (by rintro c (h | h); exact .inl h; exact h.elim)
    simp only [encW, Nat.zero_add] at sA gA lA' hg' KA
    simp -implicitDefEqProofs (maxSteps := 999999) (disch := first | with_reducible rfl | omega | (simp only [nA, nS, nD] <;> omega) | fail) only [go_sem, t6, t7, t8, t13, t62, t63, t64, hi', hq' (nat_cst i), hc', hg']
    generalize h'.add (.cells .rw [.int .i64 w.lot, .int .i64 w.reads, .int .i64 w.lo, .int .i64 w.hi]) = hA2 at sA gA lA' KA ⊢
    have sA2 := s'.trans sA
    have oWA := oW'.mono sA
    refine Once_ev sA2 hw hy (by omega) (q'.mono sA) (by omega) (by omega) _ fun t hB sB qB kB nB => ?_
    have gmB := kB.cells (sA.cells gm) (by omega)
    have gbB := kB.2 _ _ (sA.get gb) (by omega)
    have gAB := kB.2 _ _ gA (by omega)
    have oWB := oWA.keep kB sB fun c hc e => hp1 c hc e
    have hbB := kB.2 _ _ (sA.get hb) (fun e => hp1 b hbW e)
    have KB : Keeps (fun c => (c = h1.next ∨ blkOf W c) ∨ h7.next ≤ c) h7 hB := (KA.trans kB).mono (by rintro c (h | h); exact h; exact .inl (.inl h))
    simp -implicitDefEqProofs (maxSteps := 999999) (disch := first | with_reducible rfl | omega | (simp only [nA, nS, nD] <;> omega) | fail) only [go_sem]
    refine PBd_cutB (fun s' => ∃ tm h'' ws' T'', s' = ⟨tm, h'', []⟩ ∧ h.Sub h'' ∧ Keeps (fun c => (c = h1.next ∨ blkOf W c) ∨ h7.next ≤ c) h7 h'' ∧ SpAt h'' h1.next y T'' ∧ 0 ≤ T'' ∧ T'' ≤ 2 * (i : Int) + 2 ∧ OwnSl h h'' W 4 (ws'.map encW) ∧ SameW ws' wg ∧ (∀ k, i < k → ws'[k]? = wg[k]?) ∧ (∀ k, k < i → ws'[k]? = ws[k]?) ∧
        h''.cells h3.next = some [.int .i64 e, L, W] ∧ h''.get bb = some (.cells .rw (tab r l.length)) ∧ h''.get h'.next = some (.cells .rw [.int .i64 w.lot, .int .i64 w.reads, .int .i64 w.lo, .int .i64 w.hi]) ∧
        (Opd.t 6).ev tm = .ptr h1.next 0 ∧ (Opd.t 7).ev tm = .ptr h3.next 0 ∧ (Opd.t 8).ev tm = .sl bb 0 l.length (.fix l.length) ∧ (Opd.t 13).ev tm = .int .i64 ((lst (badAt e r ws) i).length : Int) ∧ (Opd.t 14).ev tm = .int .i64 (i : Int) ∧ (Opd.t 15).ev tm = .ptr h'.next 0 ∧ (Opd.t 62).ev tm = W ∧ (Opd.t 63).ev tm = .int .i64 (wg.length : Int) ∧ (Opd.t 64).ev tm = .int .i64 (i : Int)) (fun _ => ?_) (fun _ => ?_) ?_
    · simp -implicitDefEqProofs (maxSteps := 999999) (disch := first | with_reducible rfl | omega | (simp only [nA, nS, nD] <;> omega) | fail) only [go_sem, t6, t7, t8, t13, t62, t63, t64, gmB, cells_of gAB]
      refine From_ev sB hw hy (by omega) qB (by omega) (by omega) (by omega) _ fun d hC d0 d1 sC qC kC nC => ?_
      have gmC := kC.cells gmB (by omega)
      have gAC := kC.2 _ _ gAB (by omega)
      have gbC := kC.2 _ _ gbB (by omega)
      have hbC := kC.2 _ _ hbB (fun e => hp1 b hbW e)
      have oWC := oWB.keep kC sC fun c hc e => hp1 c hc e
      have hput := wg_put ws hil (min 10000 (w.reads + d))
      rw [ew] at hput
      have hpC : hC.put b (i * 4 + 1) [.int .i64 (min 10000 (w.reads + d))] = some (hC.set b (.cells (.gr 4) ((ws.set i ⟨w.lot, min 10000 (w.reads + d), w.lo, w.hi⟩).map encW).flatten)) := H.put_gr rfl hbC hput
      have s'D : h.Sub (hC.set b (.cells (.gr 4) ((ws.set i ⟨w.lot, min 10000 (w.reads + d), w.lo, w.hi⟩).map encW).flatten)) := sC.set lb1 (sC.wf _ _ hbC) hw _
      have oWD : OwnSl h (hC.set b (.cells (.gr 4) ((ws.set i ⟨w.lot, min 10000 (w.reads + d), w.lo, w.hi⟩).map encW).flatten)) W 4 ((ws.set i ⟨w.lot, min 10000 (w.reads + d), w.lo, w.hi⟩).map encW) :=
        ⟨s'D, fun r hr => by obtain ⟨_, _, rfl⟩ := List.mem_map.1 hr; rfl, .inr ⟨b, by rw [eW]; simp, lb1, by rw [H.next_set]; exact sC.wf _ _ hbC, get_set_same rfl⟩⟩
      have hSD := hS.set hil (n := min 10000 (w.reads + d)) (by omega)
      rw [ew] at hSD
      have n3 : h3.next ≠ b := fun e => hp3 b hbW e.symm
      have nb : bb ≠ b := fun e => hpb b hbW e.symm
      have n1 : h1.next ≠ b := fun e => hp1 b hbW e.symm
      have nA : h'.next ≠ b := by omega
      simp -implicitDefEqProofs (maxSteps := 999999) (disch := first | with_reducible rfl | omega | (simp only [nA, nS, nD] <;> omega) | fail) only [go_sem, hq' (nat_cst i), hpC, evQ_ld, gmC, gmB, cells_of gAC, cells_of gAB, wr_in, Kcut_nrm]
      refine ⟨_, _, ws.set i ⟨w.lot, min 10000 (w.reads + d), w.lo, w.hi⟩, T' + 1 + 1, rfl, s'D, ((KB.trans kC).trans (Keeps.set hC b _)).mono ?_, qC.keep (Keeps.set hC b _) n1, by omega, by omega, oWD, hSD, fun k hk => ?_, fun k hk => ?_, by rw [cells_set_other n3]; exact gmC, by rw [get_set_other nb]; exact gbC, by rw [get_set_other nA]; exact gAC, (by simp [ev_c, ev_put, t6] <;> rfl), (by simp [ev_c, ev_put, t7] <;> rfl), (by simp [ev_c, ev_put, t8] <;> rfl), (by simp [ev_c, ev_put, t13] <;> rfl), (by simp [ev_c, ev_put] <;> rfl), (by simp [ev_c, ev_put] <;> rfl), (by simp [ev_c, ev_put, t62] <;> rfl), (by simp [ev_c, ev_put, t63] <;> rfl), (by simp [ev_c, ev_put, t64] <;> rfl)⟩
      · rintro c ((h | h) | h)
        · exact h
        · exact .inl (.inl h)
        · subst h; exact .inl (.inr hbW)
      · rw [List.getElem?_set_ne (by omega)]; exact hws k (by omega)
      · rw [List.getElem?_set_ne (by omega)]
    · simp -implicitDefEqProofs (maxSteps := 999999) (disch := first | with_reducible rfl | omega | (simp only [nA, nS, nD] <;> omega) | fail) only [go_sem, Kcut_nrm]
      exact ⟨_, _, ws, T' + 1, rfl, sB, KB, qB, by omega, by omega, oWB, hS, fun k hk => hws k (by omega), fun _ _ => rfl, gmB, gbB, gAB, (by simp [ev_c, ev_put, t6] <;> rfl), (by simp [ev_c, ev_put, t7] <;> rfl), (by simp [ev_c, ev_put, t8] <;> rfl), (by simp [ev_c, ev_put, t13] <;> rfl), (by simp [ev_c, ev_put] <;> rfl), (by simp [ev_c, ev_put] <;> rfl), (by simp [ev_c, ev_put, t62] <;> rfl), (by simp [ev_c, ev_put, t63] <;> rfl), (by simp [ev_c, ev_put, t64] <;> rfl)⟩
    · rintro s ⟨tm, h'', ws', T'', rfl, s'', K'', q'', T0', T1', oW'', hS', hws', hws2, gm'', gb'', gA'', t6, t7, t8, t13, t14, t15, t62, t63, t64⟩
      have hil2 : i < ws'.length := by rw [hS'.1]; exact hi
      have hwsl2 : ws'.length ≤ 10 := by have := hS'.1; omega
      have aW2 := oW''.sl (by simp only [List.length_map]; omega)
      obtain ⟨b2, o2, c2, cs2, e2, hc2, hq2, hg2, hn2, _⟩ := aW2.at hil2
      obtain ⟨v, ev⟩ : ∃ v, ws'[i] = v := ⟨_, rfl⟩
      have hvS := hS'.2 i hil2 hi
      have hgS2 := hS'.good (e := e) (l := l) (em ▸ g)
      have hvg := hgS2.wg _ (List.getElem_mem hil2)
      have hbst := bad_step e r hil2
      have hbc := bad_congr e r (ws := ws) (ws' := ws') (i := i) hws2
      rw [hbc] at hbst
      rw [ev] at hvS hvg hg2 hbst
      have hvl : v.lot = (ln : Int) := by rw [hvS.1, ← hwS.1]; exact eln
      rw [hvl] at hbst
      simp only [encW] at hg2
      have hrv := hrl (ln : Int) (by omega) (by omega)
      have hrt := right_ev (h := h'') (L := L) (W := W) (e := e) (w := v) (n := r (ln : Int)) (by omega) (by omega) (by omega) (by omega) (by omega)
      simp only [encW] at hrt
      have s45 : h''.Sub ((h''.add (.cells .rw [.int .i64 e, L, W])).add (.cells .rw [.int .i64 v.lot, .int .i64 v.reads, .int .i64 v.lo, .int .i64 v.hi])) := ((H.Sub.refl s''.wf).add _).add _
      have K5 : Keeps (fun c => c = h1.next ∨ blkOf W c) h7 ((h''.add (.cells .rw [.int .i64 e, L, W])).add (.cells .rw [.int .i64 v.lot, .int .i64 v.reads, .int .i64 v.lo, .int .i64 v.hi])) := Keeps.new s7.wf ((K''.trans (Keeps.of s45 (fun _ => False))).mono fun c hc => hc.elim id False.elim)
      have hws3 : ∀ k, i + 1 ≤ k → ws'[k]? = wg[k]? := fun k hk => hws' k (by omega)
      have hbb : ((lst (badAt e r ws) i).length : Int) ≤ 10 := by have := lst_len (badAt e r ws) i; omega
      simp -implicitDefEqProofs (maxSteps := 999999) (disch := first | with_reducible rfl | omega | (simp only [nA, nS, nD] <;> omega) | fail) only [go_sem, t6, t7, t8, t13, t14, t15, t62, t63, t64, gm'', hq2 (nat_cst i), hc2, hg2, cells_of gA'', eln, q_iad_sl (nat_cst ln) hln, Nat.mul_one, cells_of gb'', tab_at2 hln, hrt, evQ_ld]
      cases hri : rightM e v (r (ln : Int))
      · rw [hri] at hbst
        have hbst' : ((lst (badAt e r ws) i).length : Int) + 1 = ((lst (badAt e r ws') (i + 1)).length : Int) := by simp at hbst; omega
        simp -implicitDefEqProofs (maxSteps := 999999) (disch := first | with_reducible rfl | omega | (simp only [nA, nS, nD] <;> omega) | fail) only [go_sem, t6, t7, t8, t13, t14, t15, t62, t63, t64, Bool.not_false, wr_succ, wr_in, hbst']
        exact ⟨_, _, ws', T'', rfl, s''.trans s45, K5, q''.mono s45, by omega, by omega, oW''.mono s45, hS', hws3, (by simp [ev_c, ev_put, t6] <;> rfl), (by simp [ev_c, ev_put, t7] <;> rfl), (by simp [ev_c, ev_put, t8] <;> rfl), (by simp [ev_c, ev_put] <;> rfl), (by simp [ev_c, ev_put, t62] <;> rfl), (by simp [ev_c, ev_put, t63] <;> rfl), (by simp [ev_c, ev_put] <;> rfl)⟩
      · rw [hri] at hbst
        have hbst' : ((lst (badAt e r ws) i).length : Int) = ((lst (badAt e r ws') (i + 1)).length : Int) := by simp at hbst; omega
        simp -implicitDefEqProofs (maxSteps := 999999) (disch := first | with_reducible rfl | omega | (simp only [nA, nS, nD] <;> omega) | fail) only [go_sem, t6, t7, t8, t13, t14, t15, t62, t63, t64, Bool.not_true, wr_succ]
        exact ⟨_, _, ws', T'', rfl, s''.trans s45, K5, q''.mono s45, by omega, by omega, oW''.mono s45, hS', hws3, (by simp [ev_c, ev_put, t6] <;> rfl), (by simp [ev_c, ev_put, t7] <;> rfl), (by simp [ev_c, ev_put, t8] <;> rfl), by rw [← hbst']; exact (by simp [ev_c, ev_put, t13] <;> rfl), (by simp [ev_c, ev_put, t62] <;> rfl), (by simp [ev_c, ev_put, t63] <;> rfl), (by simp [ev_c, ev_put] <;> rfl)⟩
  · rintro s ⟨tm, h', ws, T', rfl, s', K', q', T0, T1, oW', hS, hws, t6, t7, t8, t13, t62, t63, t64⟩
    have hS1 := hS.1
    have gS : Good ⟨e, l, ws⟩ := hS.good (em ▸ g)
    have cS := check_good gS
    have aWS := oW'.sl (by simp only [List.length_map]; omega)
    have hlWS : q_len W = some (.int .i64 (ws.length : Int)) := aWS.lenE
    have gm := K'.cells g7 (by rintro (h | h); omega; exact hp3 _ h rfl)
    have mS : MlIs h' (.agg [.int .i64 e, L, W]) ⟨e, l, ws⟩ := by
      obtain ⟨L', W', e', aL7, _⟩ := m7
      injection e' with e'
      injection e' with x1 e'
      injection e' with x2 e'
      subst x2
      rw [em1] at aL7
      exact ⟨L, W, rfl, SlAt_keep aL7 K' fun c hc h => h.elim (fun e => by have := (hLp c hc).2; omega) (hpL c hc), aWS⟩
    have hAg : ∀ c : Nat → Bool, (∀ k, k < (Ml.mk e l ws).wgs.length → c k = true → badAt e r ws k = false) → agreeB ⟨e, l, ws⟩ c = true := fun c hc =>
      agree_right (wg := wg) (D := 3600) (em ▸ R) (by omega) gS fun k hk hck => by
        have := hc k hk hck
        unfold badAt at this
        rw [List.getElem?_eq_getElem hk] at this
        simpa using this
    obtain ⟨lw, hfw, hmw⟩ := wrong_some gS
    have hle := wrong_le hmw hAg
    rw [show (Ml.mk e l ws).wgs.length = ws.length from rfl] at hle hmw hfw
    have hlw10 := hmw.inc.len (by omega)
    have hbb : ((lst (badAt e r ws) wg.length).length : Int) ≤ 10 := by have := lst_len (badAt e r ws) wg.length; omega
    rw [hS1] at hle
    have nle : ¬ ((lst (badAt e r ws) wg.length).length : Int) < (lw.length : Int) := by omega
    simp -implicitDefEqProofs (maxSteps := 999999) (disch := first | with_reducible rfl | omega | (simp only [nA, nS, nD] <;> omega) | fail) only [go_sem, t6, t7, t8, t13, t62, t63, t64, Int.lt_irrefl, gm]
    refine (Wrong_ev s'.wf mS).mono fun u h8 hu => ?_
    obtain ⟨s8, X3, l3, e3, rfl, aX3, spec⟩ := hu
    rcases spec with ⟨a, _⟩ | ⟨_, hfo, rfl⟩
    · exact absurd cS a
    rw [show (Ml.mk e l ws).wgs.length = ws.length from rfl, hfw] at hfo
    obtain rfl := Option.some.inj hfo
    have X31 := aX3.one
    have sA := (H.Sub.refl (s'.trans s8).wf).add (.cells .rw [X3])
    have gX : (h8.add (.cells .rw [X3])).cells h8.next = some [X3] := cells_add_new rfl
    have gmA := sA.cells (s8.cells gm)
    simp -implicitDefEqProofs (maxSteps := 999999) (disch := first | with_reducible rfl | omega | (simp only [nA, nS, nD] <;> omega) | fail) only [go_sem, t6, t7, t8, t13, X31, cells_one X31, gmA]
    generalize h8.add (.cells .rw [X3]) = h9 at sA gX gmA ⊢
    have s89 := s8.trans sA
    have s9 := s'.trans s89
    refine (Clash_cut s9.wf (mS.mono s89)).mono fun u h10 hu => ?_
    obtain ⟨s910, X4, lc, e4, rfl, aX4, spec⟩ := hu
    have s10 := s9.trans s910
    have gX10 := s910.cells gX
    have gm10 := s910.cells gmA
    have m10 := (mS.mono s89).mono s910
    have aX10 := (aX3.mono sA).mono s910
    have hlX3 := aX10.lenE
    have hlX4 := aX4.1.lenE
    have hst := isSorted_ev aX10 (Inc_pw hmw.inc)
    have key : (e4 = 6 ∧ lc = [] ∧ lw = []) ∨ (e4 = 0 ∧ IsMin (clashP ⟨e, l, ws⟩) ws.length lc ∧ 0 < lw.length ∧ ∃ i ∈ lc, i ∈ lw) := by
      rw [show (Ml.mk e l ws).wgs.length = ws.length from rfl] at spec
      rcases clash_wrong gS (l := lw) hmw with ⟨z1, z2⟩ | ⟨c', z1, z2, z3, z4⟩
      · rcases spec with ⟨a, _⟩ | ⟨_, _, q1, q2⟩ | ⟨_, q1, _⟩
        · exact absurd cS a
        · exact .inl ⟨q1, q2, z2⟩
        · rw [show (Ml.mk e l ws).wgs.length = ws.length from rfl, q1] at z1; cases z1
      · rw [show (Ml.mk e l ws).wgs.length = ws.length from rfl] at z1 z2
        rcases spec with ⟨a, _⟩ | ⟨_, q1, _⟩ | ⟨_, q1, q2⟩
        · exact absurd cS a
        · rw [q1] at z1; cases z1
        · rw [q1] at z1
          obtain rfl := Option.some.inj z1
          exact .inr ⟨q2, z2, z3, z4⟩
    have hlc : Inc ws.length 0 lc := by
      rcases key with ⟨_, rfl, _⟩ | ⟨_, h, _⟩
      · trivial
      · exact h.inc
    have hst4 := isSorted_ev aX4.1 (Inc_pw hlc)
    have hlc10 := hlc.len (by omega)
    have hgX : ∀ {h' : H}, h10.Sub h' → h'.cells h8.next = some [X3] := fun s => s.cells gX10
    have key2 := key
    rcases key with ⟨e46, elc, elw⟩ | ⟨e40, hmc, hlw0, hhit⟩
    have p0 : (e4 = 0) = False := eq_false (by omega)
    have p6 : (e4 = 6) = True := eq_true e46
    have pl : ((0 : Int) < (lw.length : Int)) = False := eq_false (by rw [elw]; exact Int.lt_irrefl 0)
    simp -implicitDefEqProofs (maxSteps := 999999) (disch := first | with_reducible rfl | omega | (simp only [nA, nS, nD] <;> omega) | fail) only [go_sem, t6, t7, t8, t13, gX10, hlX3, hlX4, nle, hst, hst4, ne_eq, not_true_eq_false, not_false_eq_true, p0, p6, pl, decide_true, decide_false, beq_self_eq_true, gm10, hlWS]
    clear p0 p6 pl e46 elc elw
    rotate_left
    have p0 : (e4 = 0) = True := eq_true e40
    have pl : ((0 : Int) < (lw.length : Int)) = True := eq_true (by omega)
    simp -implicitDefEqProofs (maxSteps := 999999) (disch := first | with_reducible rfl | omega | (simp only [nA, nS, nD] <;> omega) | fail) only [go_sem, t6, t7, t8, t13, gX10, hlX3, hlX4, nle, hst, hst4, ne_eq, not_true_eq_false, not_false_eq_true, p0, pl, decide_true, decide_false, beq_self_eq_true, gm10, hlWS]
    clear p0 pl e40 hmc hlw0 hhit
    all_goals
      refine W_count ws.length (fun i s => ∃ tm h'' z, s = ⟨tm, h'', []⟩ ∧ OwnSl h10 h'' z 1 ((lst (inL lw true) i).map encI) ∧
          (Opd.t 7).ev tm = .ptr h3.next 0 ∧ (Opd.t 16).ev tm = .ptr h8.next 0 ∧ (Opd.t 18).ev tm = X4 ∧ (Opd.t 19).ev tm = .int .i64 e4 ∧ (Opd.t 20).ev tm = z ∧ (Opd.t 144).ev tm = .int .i64 (ws.length : Int) ∧ (Opd.t 145).ev tm = .int .i64 (i : Int))
        ?_ ?_ (i := 0) (Nat.zero_le _) ⟨_, _, .nils, rfl, OwnSl.nil (H.Sub.refl s10.wf) 1, (by simp [ev_c, ev_put, t7] <;> rfl), (by simp [ev_c, ev_put] <;> rfl), (by simp [ev_c, ev_put] <;> rfl), (by simp [ev_c, ev_put] <;> rfl), (by simp [ev_c, ev_put] <;> rfl), (by simp [ev_c, ev_put] <;> rfl), (by simp [ev_c, ev_put] <;> rfl)⟩ <;> clear t6 t7 t8 t13 t62 t63 t64 tm
      · rintro i s hi ⟨tm, h'', z, rfl, oz, t7, t16, t18, t19, t20, t144, t145⟩
        have hi' : (i : Int) < (ws.length : Int) := by omega
        have sz := oz.1
        have hln := lst_len (inL lw true) i
        have e0 : (lst (inL lw true) (i + 1)) = lst (inL lw true) i ++ if inL lw true i = true then [(i : Int)] else [] := rfl
        simp -implicitDefEqProofs (maxSteps := 999999) (disch := first | with_reducible rfl | omega | (simp only [nA, nS, nD] <;> omega) | fail) only [go_sem, t7, t16, t18, t19, t20, t144, t145, hi', hgX sz, contains_ev (aX10.mono sz)]
        by_cases hm : (i : Int) ∈ lw
        · have e1 : inL lw true i = false := by simp [inL, hm]
          rw [e1] at e0
          simp only [Bool.false_eq_true, ↓reduceIte, List.append_nil] at e0
          simp -implicitDefEqProofs (maxSteps := 999999) (disch := first | with_reducible rfl | omega | (simp only [nA, nS, nD] <;> omega) | fail) only [go_sem, t7, t16, t18, t19, t20, t144, t145, hm, decide_true, wr_succ]
          exact ⟨_, _, z, rfl, by rw [e0]; exact oz, (by simp [ev_c, ev_put, t7] <;> rfl), (by simp [ev_c, ev_put, t16] <;> rfl), (by simp [ev_c, ev_put, t18] <;> rfl), (by simp [ev_c, ev_put, t19] <;> rfl), (by simp [ev_c, ev_put, t20] <;> rfl), (by simp [ev_c, ev_put, t144] <;> rfl), (by simp [ev_c, ev_put] <;> rfl)⟩
        · have e1 : inL lw true i = true := by simp [inL, hm]
          rw [e1] at e0
          simp only [↓reduceIte] at e0
          simp -implicitDefEqProofs (maxSteps := 999999) (disch := first | with_reducible rfl | omega | (simp only [nA, nS, nD] <;> omega) | fail) only [go_sem, t7, t16, t18, t19, t20, t144, t145, hm, decide_false]
          have sC := (H.Sub.refl sz.wf).add (.cells .rw [.int .i64 (i : Int)])
          refine (oz.mono sC).app1 (r := encI (i : Int)) s10.wf rfl (by omega) (own1_lit _) rfl (by simp only [List.length_map]; omega) (by simp only [List.length_map]; omega) fun h6 o6 k6 n6 => ?_
          rw [H.next_add] at o6
          simp -implicitDefEqProofs (maxSteps := 999999) (disch := first | with_reducible rfl | omega | (simp only [nA, nS, nD] <;> omega) | fail) only [go_sem, t7, t16, t18, t19, t20, t144, t145, wr_succ]
          exact ⟨_, _, _, rfl, by rw [e0, List.map_append]; exact (show OwnSl h10 h6 _ 1 ((lst (inL lw true) i).map encI ++ [encI (i : Int)]) from o6), (by simp [ev_c, ev_put, t7] <;> rfl), (by simp [ev_c, ev_put, t16] <;> rfl), (by simp [ev_c, ev_put, t18] <;> rfl), (by simp [ev_c, ev_put, t19] <;> rfl), (by simp [ev_c, ev_put] <;> rfl), (by simp [ev_c, ev_put, t144] <;> rfl), (by simp [ev_c, ev_put] <;> rfl)⟩
      · rintro s ⟨tm, h'', z, rfl, oz, t7, t16, t18, t19, t20, t144, t145⟩
        have sz := oz.1
        have hln := lst_len (inL lw true) ws.length
        simp -implicitDefEqProofs (maxSteps := 999999) (disch := first | with_reducible rfl | omega | (simp only [nA, nS, nD] <;> omega) | fail) only [go_sem, t7, t16, t18, t19, t20, t144, t145, Int.lt_irrefl, sz.cells gm10]
        refine (Agree_ev sz.wf (m10.mono sz) oz.c (by omega)).mono fun u h12 hu => ?_
        obtain ⟨s12, tt, rfl, spec⟩ := hu
        have hlE : listE ⟨e, l, ws⟩ (lst (inL lw true) ws.length) = 0 := listE_inc cS (lst_inc _ _)
        rw [hlE] at spec ⊢
        rcases spec with ⟨a, _⟩ | ⟨_, ett⟩
        · exact absurd rfl a
        have hok := wrong_ok gS (l := lw) hmw
        rw [show (Ml.mk e l ws).wgs.length = ws.length from rfl] at hok
        rw [hok] at ett
        subst ett
        rcases key2 with ⟨e46, _, _⟩ | ⟨e40, hmc, hlw0, hhit⟩
        · have p0 : (e4 = 0) = False := eq_false (by omega)
          simp -implicitDefEqProofs (maxSteps := 999999) (disch := first | with_reducible rfl | omega | (simp only [nA, nS, nD] <;> omega) | fail) only [go_sem, t7, t16, t18, t19, t20, ne_eq, not_true_eq_false, not_false_eq_true, p0, decide_true, awake_eq]
          exact q _ _ rfl
        · have p0 : (e4 = 0) = True := eq_true e40
          have s1012 := sz.trans s12
          simp -implicitDefEqProofs (maxSteps := 999999) (disch := first | with_reducible rfl | omega | (simp only [nA, nS, nD] <;> omega) | fail) only [go_sem, t7, t16, t18, t19, t20, ne_eq, not_true_eq_false, not_false_eq_true, p0, decide_true, decide_false, s1012.cells gm10]
          refine (Agree_cut s1012.wf (m10.mono s1012) (aX4.mono s1012) (by omega)).mono fun u h13 hu => ?_
          obtain ⟨s13, t3, rfl, spec⟩ := hu
          have hlE2 : listE ⟨e, l, ws⟩ lc = 0 := listE_inc cS hlc
          rw [hlE2] at spec ⊢
          have hno : agreeB ⟨e, l, ws⟩ (inL lc false) = false := by
            have := hmc.holds
            unfold clashP at this
            cases ha : agreeB ⟨e, l, ws⟩ (inL lc false)
            · rfl
            · rw [ha] at this; cases this
          have et3 : t3 = false := by
            rcases spec with ⟨_, a⟩ | ⟨_, a⟩
            · exact a
            · rw [a]; exact hno
          subst et3
          have s1013 := s1012.trans s13
          simp -implicitDefEqProofs (maxSteps := 999999) (disch := first | with_reducible rfl | omega | (simp only [nA, nS, nD] <;> omega) | fail) only [go_sem, t7, t16, t18, t19, t20, ne_eq, not_true_eq_false, hlX4]
          refine W_count lc.length (fun k s => ∃ tm h'', s = ⟨tm, h'', []⟩ ∧ h10.Sub h'' ∧ (Opd.t 7).ev tm = .ptr h3.next 0 ∧ (Opd.t 16).ev tm = .ptr h8.next 0 ∧ (Opd.t 18).ev tm = X4 ∧ (Opd.t 184).ev tm = .int .i64 (lc.length : Int) ∧ (Opd.t 185).ev tm = .int .i64 (k : Int))
            ?_ ?_ (i := 0) (Nat.zero_le _) ⟨_, _, rfl, s1013, (by simp [ev_c, ev_put, t7] <;> rfl), (by simp [ev_c, ev_put, t16] <;> rfl), (by simp [ev_c, ev_put, t18] <;> rfl), (by simp [ev_c, ev_put] <;> rfl), (by simp [ev_c, ev_put] <;> rfl)⟩ <;> clear t7 t16 t18 t19 t20 t144 t145 tm
          · rintro k s hk ⟨tm, hE, rfl, sE, t7, t16, t18, t184, t185⟩
            have hk' : (k : Int) < (lc.length : Int) := by omega
            simp -implicitDefEqProofs (maxSteps := 999999) (disch := first | with_reducible rfl | omega | (simp only [nA, nS, nD] <;> omega) | fail) only [go_sem, t7, t16, t18, t184, t185, hk', sE.cells gm10]
            refine cloneGr_ev sE.wf (aX4.1.mono sE) (by omega) (by omega) _ fun b hC sC lb gC => ?_
            simp -implicitDefEqProofs (maxSteps := 999999) (disch := first | with_reducible rfl | omega | (simp only [nA, nS, nD] <;> omega) | fail) only [go_sem, t7, t16, t18, t184, t185, wr_succ]
            refine delete_ev sC.wf gC hk (by omega) _ fun hD kD wD gD => ?_
            have sED : hE.Sub hD := kD.sub sC sE.wf (fun c hc => by omega) wD
            have sD := sE.trans sED
            have hcut : CutC hD (.sl b 0 (lc.eraseIdx k).length (.slk 0 0)) 1 ((lc.eraseIdx k).map encI) := by
              have := CutC.rest (rows := (lc.eraseIdx k).map encI) (rest := [iv 0]) (j := 1) (sz := 1) (b := b) (h := hD) (by simp [encI]) (by simp only [List.length_map]; rw [List.length_eraseIdx_of_lt hk]; omega) (by rw [flatI]; exact gD) rfl
              rwa [List.length_map] at this
            simp -implicitDefEqProofs (maxSteps := 999999) (disch := first | with_reducible rfl | omega | (simp only [nA, nS, nD] <;> omega) | fail) only [go_sem, t7, t16, t18, t184, t185]
            refine (Agree_cut sD.wf (m10.mono sD) hcut (by rw [List.length_eraseIdx_of_lt hk]; omega)).mono fun u h14 hu => ?_
            obtain ⟨s14, t4, rfl, spec⟩ := hu
            have hlE3 : listE ⟨e, l, ws⟩ (lc.eraseIdx k) = 0 := listE_inc cS (Inc_erase k hlc)
            rw [hlE3] at spec ⊢
            have hyes : agreeB ⟨e, l, ws⟩ (inL (lc.eraseIdx k) false) = true := clash_less hmc hk
            rcases spec with ⟨a, _⟩ | ⟨_, a⟩
            · exact absurd rfl a
            rw [hyes] at a
            subst a
            simp -implicitDefEqProofs (maxSteps := 999999) (disch := first | with_reducible rfl | omega | (simp only [nA, nS, nD] <;> omega) | fail) only [go_sem, t7, t16, t18, t184, t185, evQ_ld, sE.cells gm10, (sE.trans sC).cells gm10, sD.cells gm10, (sD.trans s14).cells gm10, ne_eq, not_true_eq_false, Bool.not_true, wr_succ]
            exact ⟨_, _, rfl, sD.trans s14, (by simp [ev_c, ev_put, t7] <;> rfl), (by simp [ev_c, ev_put, t16] <;> rfl), (by simp [ev_c, ev_put, t18] <;> rfl), (by simp [ev_c, ev_put, t184] <;> rfl), (by simp [ev_c, ev_put] <;> rfl)⟩
          · rintro s ⟨tm, hE, rfl, sE, t7, t16, t18, t184, t185⟩
            simp -implicitDefEqProofs (maxSteps := 999999) (disch := first | with_reducible rfl | omega | (simp only [nA, nS, nD] <;> omega) | fail) only [go_sem, t7, t16, t18, t184, t185, Int.lt_irrefl]
            refine (containsFuncInt_ev (p := fun n => decide (n ∈ lw)) sE.wf (aX4.1.mono sE) fun a _ hF sF => ?_).mono fun u hG hu => ?_
            · have hX := (sE.trans sF).cells gX10
              refine Ev_body (fd := c65) rfl rfl rfl ?_
              simp -implicitDefEqProofs (maxSteps := 999999) (disch := first | with_reducible rfl | omega | (simp only [nA, nS, nD] <;> omega) | fail) only [c65, go_sem, hX, contains_ev (aX10.mono (sE.trans sF))]
              exact H.Sub.refl sF.wf
            · obtain ⟨rfl, sG⟩ := hu
              have : (lc.any fun n => decide (n ∈ lw)) = true := by
                obtain ⟨i, i1, i2⟩ := hhit
                exact List.any_eq_true.2 ⟨i, i1, by simpa using i2⟩
              simp -implicitDefEqProofs (maxSteps := 999999) (disch := first | with_reducible rfl | omega | (simp only [nA, nS, nD] <;> omega) | fail) only [go_sem, t7, t16, t18, this, awake_eq]
              exact q _ _ rfl
end Try
end Go.Ab
