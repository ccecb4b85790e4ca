/- The law SilkSplit, on our machine. Numbers that are wound off bytes: the contracts of Spool. What lots really weigh, made from the last one to the first: the plain part. Shares by kind: shares, Where. Tables by kind: the plain part. Made. Read, Weighed. The reference's table. Where, and that of the reference. Kinds together: the plain part of SilkParted. The law SilkParted, on our machine. A lot that is split: the plain part of SilkSplit. -/
import Derived.Test.YthoghcpemmfebaaG2
import Derived.Test.YthoghcpemmfebaaAc7
import Derived.Test.YthoghcpemmfebaaG4
import Derived.Test.YthoghcpemmfebaaPa6
set_option linter.unusedSimpArgs false
set_option linter.unusedVariables false
namespace Go.Ab
theorem q_shr_3 (a : Int) : q_sh .shr (.int .u64 a) (.int .u64 3) = some (.int .u64 (a.fdiv (2 ^ (min 3 IntKind.u64.bits)))) := rfl
theorem q_shr_19 (a : Int) : q_sh .shr (.int .u64 a) (.int .u64 19) = some (.int .u64 (a.fdiv (2 ^ (min 19 IntKind.u64.bits)))) := rfl
def xorI (k : IntKind) (a b : Int) : Int := k.wrap (BitVec.ofInt k.bits a ^^^ BitVec.ofInt k.bits b).toNat
def andI (k : IntKind) (a b : Int) : Int := k.wrap (BitVec.ofInt k.bits a &&& BitVec.ofInt k.bits b).toNat
theorem q_ar_xor (k : IntKind) (a b : Int) : q_ar .xor (.int k a) (.int k b) = some (.int k (xorI k a b)) := by simp [q_ar, arith, xorV, vi, xorI]
theorem q_ar_and (k : IntKind) (a b : Int) : q_ar .and (.int k a) (.int k b) = some (.int k (andI k a b)) := by simp [q_ar, arith, andV, vi, andI]
theorem and_bd (a : Int) : 0 ≤ andI .i64 a 65535 ∧ andI .i64 a 65535 ≤ 65535 := by
  have h : (BitVec.ofInt IntKind.i64.bits a &&& BitVec.ofInt IntKind.i64.bits 65535).toNat ≤ 65535 := by
    rw [BitVec.toNat_and]
    exact Nat.le_trans Nat.and_le_right (by decide)
  unfold andI
  rw [← wr_eq, wr_in (by omega) (by omega)]
  omega
namespace Try
def encU8 (n : Int) : List V := [.int .u8 n]
def SpAt (h : H) (p : Nat) (x : V) (T : Int) : Prop := ∃ st, h.get p = some (.cells .rw [x, .int .i64 T, .int .u64 st])
theorem SpAt.mono {h h' : H} {p : Nat} {x : V} {T : Int} (a : SpAt h p x T) (hs : h.Sub h') : SpAt h' p x T := by
  obtain ⟨st, a⟩ := a
  exact ⟨st, hs.get a⟩
theorem SpAt.keep {h h' : H} {p : Nat} {x : V} {T : Int} {S : Nat → Prop} (a : SpAt h p x T) (k : Keeps S h h') (n : ¬ S p) : SpAt h' p x T := by
  obtain ⟨st, a⟩ := a
  exact ⟨st, k.2 _ _ a n⟩
set_option maxHeartbeats 1000000 in
theorem turn_ev {h0 h : H} {p : Nat} {x : V} {bs : List Int} {T : Int} (hs : h0.Sub h) (hw0 : h0.wf) (hx : SlAt h0 x 1 (bs.map encU8)) (hp0 : h0.next ≤ p) (hp : SpAt h p x T) (hT : 0 ≤ T ∧ T ≤ 1000000000) (Q : V → H → Prop)
    (q : ∀ r h', 0 ≤ r → r ≤ 65535 → h0.Sub h' → SpAt h' p x (T + 1) → Keeps (fun b => b = p) h h' → h'.next = h.next → Q (.int .i64 r) h') : Ev fnG fastA (.fn 109 [] []) [.ptr p 0] h Q := by
  obtain ⟨st, hp⟩ := hp
  have hw := hs.wf
  have hlp := hw _ _ hp
  have hx1 := hx.one
  have hlen := hx.lenE
  have hc := cells_of hp
  refine Ev_body (fd := c109) rfl rfl rfl ?_
  have fin : ∀ (st' : Int) (r : Int), 0 ≤ r → r ≤ 65535 → Q (.int .i64 r) (h.set p (.cells .rw [x, .int .i64 (T + 1), .int .u64 st'])) := fun st' r r0 r1 =>
    q r _ r0 r1 (hs.set hp0 hlp hw0 _) ⟨st', get_set_same rfl⟩ (Keeps.set _ _ _) (H.next_set _ _ _)
  by_cases h1 : 0 < (bs.length : Int)
  · have hT0 : 0 ≤ T.tmod (bs.length : Int) := Int.tmod_nonneg _ hT.1
    have hT1 : T.tmod (bs.length : Int) < (bs.length : Int) := Int.tmod_lt_of_pos _ h1
    obtain ⟨i, ei⟩ := Int.eq_ofNat_of_zero_le hT0
    have hi : i < bs.length := by omega
    obtain ⟨b2, o2, c2, cs2, e2, hcs2, hq2, hgg2, hn2, hn02⟩ := (hx.mono hs).at hi
    have v2 := hn02 (by omega)
    simp only [encU8] at v2
    have hbb : b2 ≠ p := by
      have := SlAt_lt hw0 hx (by intro e; rw [List.map_eq_nil_iff] at e; rw [e] at hi; simp at hi) b2 ⟨_, _, _, e2⟩
      omega
    have hne : ¬ (bs.length : Int) = 0 := by omega
    by_cases h2 : (bs.length : Int) < T + 1
    · simp -implicitDefEqProofs (maxSteps := 999999) (disch := first | with_reducible rfl | omega | (simp only [nA, nS, nD] <;> omega) | fail) only [c109, go_sem, hc, hlen, h1, q_ar_rem .i64 hne, ei, hq2 (nat_cst i), hcs2, v2, hp, wr_in, h2, hx1, q_shr_3, q_shr_19, q_ar_xor, q_ar_and]
      exact fin _ _ (and_bd _).1 (and_bd _).2
    · simp -implicitDefEqProofs (maxSteps := 999999) (disch := first | with_reducible rfl | omega | (simp only [nA, nS, nD] <;> omega) | fail) only [c109, go_sem, hc, hlen, h1, q_ar_rem .i64 hne, ei, hq2 (nat_cst i), hcs2, v2, hp, wr_in, h2, hx1, q_shr_3, q_shr_19, q_ar_xor, q_ar_and]
      exact fin _ _ (and_bd _).1 (and_bd _).2
  · by_cases h2 : (bs.length : Int) < T + 1
    · simp -implicitDefEqProofs (maxSteps := 999999) (disch := first | with_reducible rfl | omega | (simp only [nA, nS, nD] <;> omega) | fail) only [c109, go_sem, hc, hlen, h1, hp, wr_in, h2, hx1, q_shr_3, q_shr_19, q_ar_xor, q_ar_and]
      exact fin _ _ (and_bd _).1 (and_bd _).2
    · omega
theorem Upto_ev {h0 h : H} {p : Nat} {x : V} {bs : List Int} {T : Int} (hs : h0.Sub h) (hw0 : h0.wf) (hx : SlAt h0 x 1 (bs.map encU8)) (hp0 : h0.next ≤ p) (hp : SpAt h p x T) (hT : 0 ≤ T ∧ T ≤ 1000000000) {n : Int} (hn : -1000000000 ≤ n ∧ n ≤ 1000000000) (Q : V → H → Prop)
    (q : ∀ r h', 0 ≤ r → r ≤ max 0 n → h0.Sub h' → SpAt h' p x (T + 1) → Keeps (fun b => b = p) h h' → h'.next = h.next → Q (.int .i64 r) h') : Ev fnG fastA (.fn 49 [] []) [.ptr p 0, .int .i64 n] h Q := by
  refine Ev_body (fd := c49) rfl rfl rfl ?_
  simp -implicitDefEqProofs (maxSteps := 999999) (disch := first | with_reducible rfl | omega | (simp only [nA, nS, nD] <;> omega) | fail) only [c49, go_sem]
  refine turn_ev hs hw0 hx hp0 hp hT _ fun r h' r0 r1 s' p' k' n' => ?_
  have hm : ¬ max 1 (n + 1) = 0 := by omega
  have e0 : 0 ≤ r.tmod (max 1 (n + 1)) := Int.tmod_nonneg _ r0
  have e1 : r.tmod (max 1 (n + 1)) < max 1 (n + 1) := Int.tmod_lt_of_pos _ (by omega)
  simp -implicitDefEqProofs (maxSteps := 999999) (disch := first | with_reducible rfl | omega | (simp only [nA, nS, nD] <;> omega) | fail) only [go_sem, wr_in, q_ar_rem .i64 hm]
  exact q _ _ e0 (by omega) s' p' k' n'
theorem From_ev {h0 h : H} {p : Nat} {x : V} {bs : List Int} {T : Int} (hs : h0.Sub h) (hw0 : h0.wf) (hx : SlAt h0 x 1 (bs.map encU8)) (hp0 : h0.next ≤ p) (hp : SpAt h p x T) (hT : 0 ≤ T ∧ T ≤ 1000000000) {lo hi : Int} (hlo : -1000000 ≤ lo ∧ lo ≤ 1000000) (hhi : -1000000 ≤ hi ∧ hi ≤ 1000000) (Q : V → H → Prop)
    (q : ∀ r h', lo ≤ r → r ≤ max lo hi → h0.Sub h' → SpAt h' p x (T + 1) → Keeps (fun b => b = p) h h' → h'.next = h.next → Q (.int .i64 r) h') : Ev fnG fastA (.fn 52 [] []) [.ptr p 0, .int .i64 lo, .int .i64 hi] h Q := by
  refine Ev_body (fd := c52) rfl rfl rfl ?_
  simp -implicitDefEqProofs (maxSteps := 999999) (disch := first | with_reducible rfl | omega | (simp only [nA, nS, nD] <;> omega) | fail) only [c52, go_sem, wr_in]
  refine Upto_ev hs hw0 hx hp0 hp hT (by omega) _ fun r h' r0 r1 s' p' k' n' => ?_
  simp -implicitDefEqProofs (maxSteps := 999999) (disch := first | with_reducible rfl | omega | (simp only [nA, nS, nD] <;> omega) | fail) only [go_sem, wr_in]
  exact q _ _ (by omega) (by omega) s' p' k' n'
theorem Once_ev {h0 h : H} {p : Nat} {x : V} {bs : List Int} {T : Int} (hs : h0.Sub h) (hw0 : h0.wf) (hx : SlAt h0 x 1 (bs.map encU8)) (hp0 : h0.next ≤ p) (hp : SpAt h p x T) (hT : 0 ≤ T ∧ T ≤ 1000000000) {n : Int} (hn : 0 ≤ n ∧ n ≤ 1000000) (Q : V → H → Prop)
    (q : ∀ t h', h0.Sub h' → SpAt h' p x (T + 1) → Keeps (fun b => b = p) h h' → h'.next = h.next → Q (.bool t) h') : Ev fnG fastA (.fn 59 [] []) [.ptr p 0, .int .i64 n] h Q := by
  refine Ev_body (fd := c59) rfl rfl rfl ?_
  simp -implicitDefEqProofs (maxSteps := 999999) (disch := first | with_reducible rfl | omega | (simp only [nA, nS, nD] <;> omega) | fail) only [c59, go_sem, wr_in]
  refine Upto_ev hs hw0 hx hp0 hp hT (by omega) _ fun r h' r0 r1 s' p' k' n' => ?_
  simp -implicitDefEqProofs (maxSteps := 999999) (disch := first | with_reducible rfl | omega | (simp only [nA, nS, nD] <;> omega) | fail) only [go_sem]
  exact q _ _ s' p' k' n'
theorem Wound_ev {h : H} {x : V} {bs : List Int} (hw : h.wf) (hx : SlAt h x 1 (bs.map encU8)) (Q : V → H → Prop) (q : ∀ h', h.Sub h' → SpAt h' h.next x 0 → h'.next = h.next + 1 → Q (.ptr h.next 0) h') : Ev fnG fastA (.fn 32 [] []) [x] h Q := by
  have hx1 := hx.one
  refine Ev_body (fd := c32) rfl rfl rfl ?_
  simp -implicitDefEqProofs (maxSteps := 999999) (disch := first | with_reducible rfl | omega | (simp only [nA, nS, nD] <;> omega) | fail) only [c32, go_sem, hx.lenE, hx1, cells_one hx1]
  exact q _ ((H.Sub.refl hw).add _) ⟨_, get_add_new rfl⟩ (H.next_add _ _)
end Try
end Go.Ab
set_option linter.unusedSimpArgs false
set_option linter.unusedVariables false
namespace Go.Ab.Try
open Go.Ab.Silk
def LotsOk (l : List Lt) : Prop := ∀ j (hj : j < l.length), (-1 ≤ l[j].frm ∧ l[j].frm ≤ (j : Int) - 1) ∧ (0 ≤ l[j].kind ∧ l[j].kind ≤ 3)
theorem LotsOk.nil : LotsOk [] := fun j hj => by simp at hj
theorem LotsOk.snoc {l : List Lt} (h : LotsOk l) {f k : Int} (h1 : -1 ≤ f ∧ f ≤ (l.length : Int) - 1) (h2 : 0 ≤ k ∧ k ≤ 3) : LotsOk (l ++ [⟨f, k⟩]) := fun j hj => by
  by_cases e : j < l.length
  · rw [List.getElem_append_left e]; exact h j e
  · have : j = l.length := by simp at hj; omega
    subst this
    simp; exact ⟨h1, h2⟩
theorem good_made {e : Int} {l : List Lt} (he : 0 ≤ e ∧ e ≤ 50) (h1 : 1 ≤ l.length ∧ l.length ≤ 12) (h : LotsOk l) : Good ⟨e, l, []⟩ :=
  ⟨h1, by simp, he, by simp, fun a ha => by
    obtain ⟨j, hj, rfl⟩ := List.getElem_of_mem ha
    exact (h j hj).2, fun i hi => (h i hi).1, by simp, by simp⟩
def allL (n : Nat) : List Int := (List.range n).map fun (k : Nat) => (k : Int)
theorem mem_allL {n : Nat} {i : Int} : i ∈ allL n ↔ 0 ≤ i ∧ i < n := by
  unfold allL
  rw [List.mem_map]
  constructor
  · rintro ⟨k, hk, rfl⟩
    have := List.mem_range.1 hk; omega
  · rintro ⟨h0, h1⟩
    exact ⟨i.toNat, List.mem_range.2 (by omega), by omega⟩
theorem allL_nodup (n : Nat) : (allL n).Nodup := by
  unfold allL List.Nodup
  rw [List.pairwise_map]
  exact List.nodup_range.imp fun h e => h (by omega)
def potG (m : Ml) (r : Int → Int) (i : Int) : Int → Int := fun j => if j ≤ i ∨ frmAt m j < 0 then r j else 0
def pot (m : Ml) (r : Int → Int) (i : Int) : Int := sumL (potG m r i) (allL m.lots.length)
structure RealI (m : Ml) (D i : Int) (r : Int → Int) : Prop where
  node : ∀ j : Int, i < j → j < m.lots.length → parts m j ≠ [] → r j = sumL r (parts m j)
  acc : ∀ j : Int, 0 ≤ j → j ≤ i → r j = sumL r ((parts m j).filter fun q => decide (i < q))
  nn : ∀ j : Int, 0 ≤ j → j < m.lots.length → 0 ≤ r j
  lim : pot m r i ≤ D * ((m.lots.length : Int) - 1 - i)
section
variable {m : Ml} {D : Int}
theorem RealI.start (g : Good m) : RealI m D ((m.lots.length : Int) - 1) fun _ => 0 := by
  have z : ∀ l : List Int, sumL (fun _ => (0 : Int)) l = 0 := fun l => by
    induction l with
    | nil => rfl
    | cons a l ih => simp only [sumL, ih]; omega
  refine ⟨fun j h1 h2 => by omega, fun j _ _ => (z _).symm, fun j _ _ => Int.le_refl _, ?_⟩
  have e : pot m (fun _ => 0) ((m.lots.length : Int) - 1) = 0 := by
    unfold pot
    rw [sumL_congr (y := fun _ => 0) fun p _ => by unfold potG; split <;> rfl]
    exact z _
  rw [e]
  have : (m.lots.length : Int) - 1 - ((m.lots.length : Int) - 1) = 0 := by omega
  rw [this]; omega
theorem sumL_filter (x : Int → Int) {i : Int} : ∀ {l : List Int}, l.Nodup → sumL x (l.filter fun q => decide (i - 1 < q)) = sumL x (l.filter fun q => decide (i < q)) + (if i ∈ l then x i else 0)
  | [], _ => by simp [sumL]
  | a :: l, h => by
    rw [List.nodup_cons] at h
    have ih := sumL_filter x (i := i) h.2
    simp only [List.filter_cons, List.mem_cons]
    by_cases e : i = a
    · subst e
      have h1 : decide (i - 1 < i) = true := by rw [decide_eq_true_eq]; omega
      have h2 : decide (i < i) = false := by rw [decide_eq_false_iff_not]; omega
      rw [if_neg h.1] at ih
      simp only [h1, h2, if_true, Bool.false_eq_true, if_false, true_or, sumL, ih]
      omega
    · have h3 : decide (i - 1 < a) = decide (i < a) := by
        by_cases c : i < a
        · rw [decide_eq_true c, decide_eq_true (by omega)]
        · rw [decide_eq_false c, decide_eq_false (by omega)]
      rw [h3]
      simp only [e, false_or]
      by_cases c : i < a
      · simp only [decide_eq_true c, if_true, sumL, ih]; omega
      · simp only [decide_eq_false c, Bool.false_eq_true, if_false, ih]
theorem potG_nn {r : Int → Int} (h : ∀ j : Int, 0 ≤ j → j < m.lots.length → 0 ≤ r j) (i : Int) : ∀ j ∈ allL m.lots.length, 0 ≤ potG m r i j := fun j hj => by
  have := mem_allL.1 hj
  unfold potG; split
  · exact h j this.1 this.2
  · exact Int.le_refl _
theorem sumL_ge' {x : Int → Int} {p : Int} {l : List Int} (h : ∀ p ∈ l, 0 ≤ x p) (hp : p ∈ l) : x p ≤ sumL x l := by
  induction l with
  | nil => simp at hp
  | cons a l ih =>
    have h0 := h a (by simp)
    have h1 := sumL_nonneg (x := x) (l := l) fun p hp => h p (by simp [hp])
    simp only [sumL]
    rcases List.mem_cons.1 hp with rfl | hp
    · omega
    · have := ih (fun p hp => h p (by simp [hp])) hp; omega
theorem RealI.done (g : Good m) {i : Int} {r : Int → Int} (h : RealI m D i r) (i0 : 0 ≤ i) (i1 : i < m.lots.length) {d : Int} (hd : 0 ≤ d ∧ d ≤ D) {r1 : Int → Int} (e1 : r1 = if parts m i = [] then up1 r i d else r) :
    (∀ j : Int, j ≠ i → r1 j = r j) ∧ (∀ j : Int, 0 ≤ j → j < m.lots.length → 0 ≤ r1 j) ∧ (parts m i ≠ [] → r1 i = sumL r1 (parts m i)) ∧ pot m r1 i ≤ D * ((m.lots.length : Int) - i) := by
  have F := forest g
  have hl : D * ((m.lots.length : Int) - i) = D * ((m.lots.length : Int) - 1 - i) + D := by
    rw [show (m.lots.length : Int) - i = ((m.lots.length : Int) - 1 - i) + 1 by omega, Int.mul_add, Int.mul_one]
  have hlim := h.lim
  have hacc := h.acc i i0 (Int.le_refl _)
  by_cases hp : parts m i = []
  · rw [if_pos hp] at e1
    have hz : r i = 0 := by rw [hacc, hp]; rfl
    subst e1
    refine ⟨fun j hj => up1_ne r d hj, fun j j0 j1 => ?_, fun hn => absurd hp hn, ?_⟩
    · by_cases e : j = i
      · subst e; rw [up1_same]; exact hd.1
      · rw [up1_ne r d e]; exact h.nn j j0 j1
    · have e2 : potG m (up1 r i d) i = up1 (potG m r i) i d := by
        funext j
        unfold potG up1
        by_cases e : j = i
        · subst e; simp
        · simp [e]
      unfold pot
      rw [e2, sumL_up1 (allL_nodup _) (mem_allL.2 ⟨i0, i1⟩)]
      have : potG m r i i = 0 := by unfold potG; rw [if_pos (.inl (Int.le_refl _)), hz]
      unfold pot at hlim
      omega
  · rw [if_neg hp] at e1
    subst e1
    refine ⟨fun j _ => rfl, h.nn, fun _ => ?_, by omega⟩
    rw [hacc, List.filter_eq_self.2 fun q hq => ?_]
    obtain ⟨q0, q1, qf⟩ := (F.mem _ _).1 hq
    have := F.lt q q0 q1
    rw [decide_eq_true_eq]; omega
theorem sum_two {x : Int → Int} {a b : Int} {l : List Int} (hn : l.Nodup) (h : ∀ p ∈ l, 0 ≤ x p) (ha : a ∈ l) (hb : b ∈ l) (hab : a ≠ b) : x a + x b ≤ sumL x l := by
  have e := sumL_up1 (x := x) (v := 0) hn ha
  have h2 := sumL_ge' (x := up1 x a 0) (l := l) (fun p hp => by
      by_cases c : p = a
      · subst c; rw [up1_same]; exact Int.le_refl _
      · rw [up1_ne x 0 c]; exact h p hp) hb
  rw [up1_ne x 0 (Ne.symm hab)] at h2
  omega
theorem RealI.push (g : Good m) {i : Int} {r : Int → Int} (h : RealI m D i r) (i0 : 0 ≤ i) (i1 : i < m.lots.length) {d : Int} (hd : 0 ≤ d ∧ d ≤ D) {r1 r2 : Int → Int} (e1 : r1 = if parts m i = [] then up1 r i d else r)
    (e2 : r2 = if frmAt m i = -1 then r1 else up1 r1 (frmAt m i) (r1 (frmAt m i) + r1 i)) : RealI m D (i - 1) r2 ∧ (frmAt m i ≠ -1 → 0 ≤ r1 (frmAt m i) ∧ 0 ≤ r1 i ∧ r1 (frmAt m i) + r1 i ≤ D * ((m.lots.length : Int) - i)) := by
  have F := forest g
  obtain ⟨d1, d2, d3, d4⟩ := h.done g i0 i1 hd e1
  have hf := F.lt i i0 i1
  have hl : (m.lots.length : Int) - 1 - (i - 1) = (m.lots.length : Int) - i := by omega
  have hlow := frmAt_lt g i0 i1
  have acc1 : ∀ j : Int, 0 ≤ j → j ≤ i - 1 → r1 j = sumL r1 ((parts m j).filter fun q => decide (i < q)) := fun j j0 j1 => by
    rw [d1 j (by omega), h.acc j j0 (by omega)]
    refine sumL_congr fun q hq => (d1 q ?_).symm
    have := (List.mem_filter.1 hq).2
    rw [decide_eq_true_eq] at this; omega
  have node1 : ∀ j : Int, i - 1 < j → j < m.lots.length → parts m j ≠ [] → r1 j = sumL r1 (parts m j) := fun j j0 j1 hp => by
    by_cases e : j = i
    · subst e; exact d3 hp
    · rw [d1 j e, h.node j (by omega) j1 hp]
      refine sumL_congr fun q hq => (d1 q ?_).symm
      obtain ⟨q0, q1, qf⟩ := (F.mem _ _).1 hq
      have := F.lt q q0 q1
      omega
  by_cases hr : frmAt m i = -1
  · rw [if_pos hr] at e2
    subst e2
    refine ⟨⟨node1, fun j j0 j1 => ?_, d2, ?_⟩, fun h => absurd hr h⟩
    · rw [sumL_filter r2 (F.nodup j), if_neg fun hm => by
        obtain ⟨_, _, qf⟩ := (F.mem _ _).1 hm
        omega, Int.add_zero]
      exact acc1 j j0 j1
    · rw [hl]
      have e3 : pot m r2 (i - 1) = pot m r2 i := by
        unfold pot
        refine sumL_congr fun j hj => ?_
        unfold potG
        by_cases e : j = i
        · subst e; rw [if_pos (.inr (by omega)), if_pos (.inl (Int.le_refl _))]
        · by_cases c : j ≤ i - 1 ∨ frmAt m j < 0
          · rw [if_pos c, if_pos (by omega)]
          · rw [if_neg c, if_neg (by omega)]
      rw [e3]; exact d4
  · rw [if_neg hr] at e2
    obtain ⟨f, ef⟩ : ∃ f, frmAt m i = f := ⟨_, rfl⟩
    rw [ef] at e2 hf hr hlow
    have f0 : 0 ≤ f := by omega
    have f1 : f < m.lots.length := by omega
    have hin : i ∈ parts m f := (F.mem _ _).2 ⟨i0, i1, ef⟩
    have hsum : r1 f + r1 i ≤ pot m r1 i := by
      have := sum_two (x := potG m r1 i) (a := f) (b := i) (allL_nodup _) (potG_nn d2 i) (mem_allL.2 ⟨f0, f1⟩) (mem_allL.2 ⟨i0, i1⟩) (by omega)
      unfold potG at this
      rw [if_pos (.inl (by omega)), if_pos (.inl (Int.le_refl _))] at this
      exact this
    rw [ef]
    refine ⟨?_, fun _ => ⟨d2 f f0 f1, d2 i i0 i1, by omega⟩⟩
    subst e2
    have oth : ∀ j : Int, j ≠ f → up1 r1 f (r1 f + r1 i) j = r1 j := fun j hj => up1_ne _ _ hj
    refine ⟨fun j j0 j1 hp => ?_, fun j j0 j1 => ?_, fun j j0 j1 => ?_, ?_⟩
    · rw [oth j (by omega), node1 j j0 j1 hp]
      refine sumL_congr fun q hq => (oth q ?_).symm
      obtain ⟨q0, q1, qf⟩ := (F.mem _ _).1 hq
      have := F.lt q q0 q1
      omega
    · have e4 : sumL (up1 r1 f (r1 f + r1 i)) ((parts m j).filter fun q => decide (i - 1 < q)) = sumL r1 ((parts m j).filter fun q => decide (i - 1 < q)) := by
        refine sumL_congr fun q hq => oth q ?_
        have := (List.mem_filter.1 hq).2
        rw [decide_eq_true_eq] at this; omega
      rw [e4, sumL_filter r1 (F.nodup j), ← acc1 j j0 j1]
      by_cases e : j = f
      · subst e; rw [up1_same, if_pos hin]
      · rw [oth j e, if_neg fun hm => by
          obtain ⟨_, _, qf⟩ := (F.mem _ _).1 hm
          omega, Int.add_zero]
    · by_cases e : j = f
      · subst e; rw [up1_same]
        have := d2 j j0 j1
        have := d2 i i0 i1
        omega
      · rw [oth j e]; exact d2 j j0 j1
    · rw [hl]
      have e3 : potG m (up1 r1 f (r1 f + r1 i)) (i - 1) = up1 (up1 (potG m r1 i) f (potG m r1 i f + r1 i)) i 0 := by
        funext j
        unfold potG up1
        by_cases e : j = i
        · subst e
          rw [if_neg (by omega)]; simp
        · by_cases c : j = f
          · subst c; rw [if_pos (.inl (by omega))]; simp [e]; omega
          · simp only [e, c, if_false]
            by_cases k : j ≤ i - 1 ∨ frmAt m j < 0
            · rw [if_pos k, if_pos (by omega)]
            · rw [if_neg k, if_neg (by omega)]
      unfold pot at d4 ⊢
      rw [e3, sumL_up1 (allL_nodup _) (mem_allL.2 ⟨i0, i1⟩), sumL_up1 (allL_nodup _) (mem_allL.2 ⟨f0, f1⟩), up1_ne _ _ (by omega)]
      have : potG m r1 i i = r1 i := by unfold potG; rw [if_pos (.inl (Int.le_refl _))]
      omega
theorem RealI.last (g : Good m) {r : Int → Int} (h : RealI m D (-1) r) (hD : 0 ≤ D) : (∀ j : Int, 0 ≤ j → j < m.lots.length → 0 ≤ r j ∧ r j ≤ 12 * D) ∧ ∀ j : Int, 0 ≤ j → j < m.lots.length → parts m j ≠ [] → r j = sumL r (parts m j) := by
  have F := forest g
  have gl := g.lots
  have hlim := h.lim
  have hl : D * ((m.lots.length : Int) - 1 - -1) ≤ D * 12 := Int.mul_le_mul_of_nonneg_left (by omega) hD
  have hup : ∀ (k : Nat) (j : Int), j < k → 0 ≤ j → j < m.lots.length → r j ≤ 12 * D := by
    intro k
    induction k with
    | zero => intro j h1 h2; omega
    | succ k ih =>
      intro j hj j0 j1
      have hf := F.lt j j0 j1
      by_cases c : frmAt m j < 0
      · have := sumL_ge' (x := potG m r (-1)) (potG_nn h.nn (-1)) (mem_allL.2 ⟨j0, j1⟩)
        unfold potG at this
        rw [if_pos (.inr c)] at this
        unfold pot potG at hlim
        omega
      · have hin : j ∈ parts m (frmAt m j) := (F.mem _ _).2 ⟨j0, j1, rfl⟩
        have h1 := ih (frmAt m j) (by omega) (by omega) (by omega)
        rw [h.node (frmAt m j) (by omega) (by omega) (fun e => by rw [e] at hin; simp at hin)] at h1
        have := sumL_ge' (x := r) (l := parts m (frmAt m j)) (fun q hq => by
          obtain ⟨q0, q1, _⟩ := (F.mem _ _).1 hq
          exact h.nn q q0 q1) hin
        omega
  exact ⟨fun j j0 j1 => ⟨h.nn j j0 j1, hup m.lots.length j j1 j0 j1⟩, fun j j0 j1 hp => h.node j (by omega) j1 hp⟩
end
end Go.Ab.Try
set_option linter.unusedSimpArgs false
set_option linter.unusedVariables false
namespace Go.Ab.Try
open Go.Ab.Silk
end Go.Ab.Try
set_option linter.unusedSimpArgs false
set_option linter.unusedVariables false
namespace Go.Ab.Try
open Go.Ab.Silk
def tab (f : Int → Int) (n : Nat) : List V := (List.range n).map fun (i : Nat) => iv (f (i : Int))
def fset (f : Int → Int) (i x : Int) : Int → Int := fun k => if k = i then x else f k
theorem tab_len (f : Int → Int) (n : Nat) : (tab f n).length = n := by simp [tab]
theorem tab_nth (f : Int → Int) {n i : Nat} (h : i < n) : nth i (tab f n) = some (.int .i64 (f (i : Int))) := by
  rw [nth_get, List.getElem?_eq_getElem (by rw [tab_len]; exact h)]
  simp [tab, iv]
theorem ints_put : ∀ (l : List Int) (i : Nat) (x : Int), i < l.length → putN i [.int .i64 x] (l.map iv) = some ((l.set i x).map iv)
  | [], i, b, h => by simp at h
  | a :: l, 0, b, _ => by simp [putN_0, over_s, over_0, consV_some, iv]
  | a :: l, i + 1, b, h => by
    have ih := ints_put l i b (by simpa using h)
    simp only [List.map_cons, putN_s, ih, consV_some, List.set_cons_succ]
theorem tab_put (f : Int → Int) {n i : Nat} (h : i < n) (x : Int) : putN i [.int .i64 x] (tab f n) = some (tab (fset f (i : Int) x) n) := by
  have e : ∀ g : Int → Int, tab g n = ((List.range n).map fun (i : Nat) => g (i : Int)).map iv := fun g => by simp [tab]
  rw [e, e, ints_put _ _ _ (by simpa using h)]
  congr 2
  refine List.ext_getElem (by simp) fun k h1 h2 => ?_
  rw [List.getElem_set]
  simp only [List.getElem_map, List.getElem_range, fset]
  by_cases c : i = k
  · subst c; simp
  · rw [if_neg c, if_neg (by omega)]
theorem tab_zero : ∀ n : Nat, repN n [V.int .i64 0] = tab (fun _ => 0) n := fun n => by
  have : ∀ n, repN n [V.int .i64 0] = List.replicate n (iv 0) := fun n => by
    induction n with
    | zero => rfl
    | succ n ih => rw [repN, appN_eq, ih]; rfl
  rw [this]
  refine List.ext_getElem (by simp [tab]) fun k h1 h2 => ?_
  simp [tab]
section
variable {m : Ml} {kind : Int}
end
end Go.Ab.Try
set_option linter.unusedSimpArgs false
set_option linter.unusedVariables false
namespace Go.Ab
theorem Keeps.new {S : Nat → Prop} {h h' : H} (hw : h.wf) (k : Keeps (fun c => S c ∨ h.next ≤ c) h h') : Keeps S h h' := ⟨k.1, fun c y e n => k.2 c y e fun hs => hs.elim n fun hge => by have := hw c y e; omega⟩
namespace Try
open Go.Ab.Silk
theorem whole_iff {m : Ml} {lot : Int} : (m.lots.any fun l => decide (l.frm = lot)) = !decide (parts m lot = []) := by
  have e : (∃ a ∈ m.lots, a.frm = lot) ↔ ¬ parts m lot = [] := by
    constructor
    · rintro ⟨a, ha, e⟩ h
      obtain ⟨j, hj, rfl⟩ := List.getElem_of_mem ha
      have : ((j : Nat) : Int) ∈ parts m lot := mem_partsL.2 ⟨j, hj, by simp, e⟩
      rw [h] at this; simp at this
    · intro h
      obtain ⟨p, hp⟩ := List.exists_mem_of_ne_nil _ h
      obtain ⟨j, hj, _, e⟩ := mem_partsL.1 hp
      exact ⟨_, List.getElem_mem hj, e⟩
  rw [Bool.eq_iff_iff, List.any_eq_true]
  simp only [decide_eq_true_eq, Bool.not_eq_true', decide_eq_false_iff_not]
  exact e
theorem tab_at2 {n i : Nat} (h : i < n) (f : Int → Int) : nth i (tab f n) = some (.int .i64 (f (i : Int))) := tab_nth f h
theorem tab_st2 {n i : Nat} (h : i < n) (f : Int → Int) (x : Int) : putN i [.int .i64 x] (tab f n) = some (tab (fset f (i : Int) x) n) := tab_put f h x
theorem whole_ev {h : H} {v : V} {m : Ml} (hw : h.wf) (hm : MlIs h v m) (lot : Int) (Q : V → H → Prop) (q : ∀ h', h.Sub h' → Q (.bool (decide (parts m lot = []))) h') : Ev fnG fastA (.fn 40 [] []) [v, .int .i64 lot] h Q := by
  obtain ⟨L, W, rfl, aL, aW⟩ := hm
  refine Ev_body (fd := c40) rfl rfl rfl ?_
  have s1 : h.Sub ((h.add (.cells .rw [.int .i64 m.errs, L, W])).add (.cells .rw [.int .i64 lot])) := (by repeat (first | assumption | exact H.Sub.refl (by assumption) | refine H.Sub.add ?_ _ | refine H.Sub.set ?_ (by first | omega | (simp only [H.next_add, H.next_set, H.next_del] <;> omega)) (by first | omega | (simp only [H.next_add, H.next_set, H.next_del] <;> omega)) (by assumption) _))
  simp -implicitDefEqProofs (maxSteps := 999999) (disch := first | with_reducible rfl | omega | (simp only [nA, nS, nD] <;> omega) | fail) only [c40, go_sem]
  have e1 : ((h.add (.cells .rw [.int .i64 m.errs, L, W])).add (.cells .rw [.int .i64 lot])).cells (h.next + 1) = some [.int .i64 lot] := by simp -implicitDefEqProofs (maxSteps := 999999) (disch := first | with_reducible rfl | omega | (simp only [nA, nS, nD] <;> omega) | fail) only [go_sem]
  refine (containsFuncLot_ev (p := fun l : Lt => decide (l.frm = lot)) s1.wf (aL.mono s1) fun a _ h1 hs1 => ?_).mono fun u h2 hu => ?_
  · have e2 := hs1.cells e1
    obtain ⟨_, b2⟩ := H.cells_eq e2
    have l2 := hs1.wf _ _ b2
    refine Ev.gen fun Q2 q2 => ?_
    refine Ev_body (fd := c100) rfl rfl rfl ?_
    simp -implicitDefEqProofs (maxSteps := 999999) (disch := first | with_reducible rfl | omega | (simp only [nA, nS, nD] <;> omega) | fail) only [c100, go_sem, encL, e2]
    exact q2 _ _ ⟨rfl, (H.Sub.refl hs1.wf).add _⟩
  · obtain ⟨rfl, s2⟩ := hu
    simp -implicitDefEqProofs (maxSteps := 999999) (disch := first | with_reducible rfl | omega | (simp only [nA, nS, nD] <;> omega) | fail) only [go_sem]
    have := q h2 (s1.trans s2)
    rw [whole_iff, Bool.not_not]; exact this
theorem spGet {h : H} {p : Nat} {x : V} {T : Int} (a : SpAt h p x T) : h.get p = some (.cells .rw [x, .int .i64 T, .int .u64 (Classical.choose a)]) := Classical.choose_spec a
set_option maxRecDepth 4000 in
set_option maxHeartbeats 4000000 in
theorem Made_ev {h0 h : H} {p : Nat} {x : V} {bs : List Int} {T : Int} (hs : h0.Sub h) (hw0 : h0.wf) (hx : SlAt h0 x 1 (bs.map encU8)) (hp0 : h0.next ≤ p) (hp : SpAt h p x T) (hT : 0 ≤ T ∧ T ≤ 1000000) {lots drams : Int} (hlots : 1 ≤ lots ∧ lots ≤ 12) (hdr : 0 ≤ drams ∧ drams ≤ 300) (Q : V → H → Prop)
    (q : ∀ e l r L b h' T', (0 ≤ e ∧ e ≤ 5) → (1 ≤ l.length ∧ (l.length : Int) ≤ lots) → LotsOk l → RealI ⟨e, l, []⟩ drams (-1) r → h0.Sub h' → SpAt h' p x T' → (0 ≤ T' ∧ T' ≤ T + 100) → Keeps (fun c => c = p) h h' → SlAt h' L 2 (l.map encL) → L.one = true → (∀ c, blkOf L c → c ≠ p ∧ h.next ≤ c) → h.next ≤ b → h'.get b = some (.cells .rw (tab r l.length)) →
      Q (.tup [.agg [.int .i64 e, L, .nils], .sl b 0 l.length (.fix l.length)]) h') : Ev fnG fastA (.fn 33 [] []) [.ptr p 0, .int .i64 lots, .int .i64 drams] h Q := by
  have hw := hs.wf
  have hlp := hw _ _ (spGet hp)
  refine Ev_body (fd := c33) rfl rfl rfl ?_
  have sA := (H.Sub.refl hw).add (.cells .rw [.int .i64 0, .nils, .nils])
  have gA : (h.add (.cells .rw [.int .i64 0, .nils, .nils])).get h.next = some (.cells .rw [.int .i64 0, .nils, .nils]) := get_add_new rfl
  simp -implicitDefEqProofs (maxSteps := 999999) (disch := first | with_reducible rfl | omega | (simp only [nA, nS, nD] <;> omega) | fail) only [c33, go_sem]
  refine Upto_ev (hs.trans sA) hw0 hx hp0 (hp.mono sA) (by omega) (by omega) _ fun e h1 e0 e1 s1 p1 k1 n1 => ?_
  have g1 := k1.2 _ _ gA (by omega)
  rw [H.next_add] at n1
  have sB := (H.Sub.refl s1.wf).add (.cells .rw [.int .i64 e, .nils, .nils])
  have hB : (h1.add (.cells .rw [.int .i64 e, .nils, .nils])).get (h.next + 1) = some (.cells .rw [.int .i64 e, .nils, .nils]) := get_add_new n1.symm
  simp -implicitDefEqProofs (maxSteps := 999999) (disch := first | with_reducible rfl | omega | (simp only [nA, nS, nD] <;> omega) | fail) only [go_sem, n1]
  refine From_ev (s1.trans sB) hw0 hx hp0 (p1.mono sB) (by omega) (by omega) (by omega) _ fun N h2 N0 N1 s2 p2 k2 n2 => ?_
  have g2 := k2.2 _ _ (sB.get g1) (by omega)
  have g82 := k2.2 _ _ hB (by omega)
  rw [H.next_add, n1] at n2
  obtain ⟨Nn, rfl⟩ := Int.eq_ofNat_of_zero_le (show 0 ≤ N by omega)
  have K2 : Keeps (fun c => c = p ∨ h.next ≤ c) h h2 := by
    refine ((((Keeps.of sA (fun _ => False)).trans k1).trans (Keeps.of sB (fun _ => False))).trans k2).mono ?_
    rintro c (((h | h) | h) | h)
    · exact h.elim
    · exact .inl h
    · exact h.elim
    · exact .inl h
  simp -implicitDefEqProofs (maxSteps := 999999) (disch := first | with_reducible rfl | omega | (simp only [nA, nS, nD] <;> omega) | fail) only [go_sem]
  refine W_count Nn (fun i s => ∃ tm h' L l T', s = ⟨tm, h', []⟩ ∧ h0.Sub h' ∧ OwnSl h0 h' L 2 (l.map encL) ∧ l.length = i ∧ LotsOk l ∧ SpAt h' p x T' ∧ 0 ≤ T' ∧ T' ≤ T + 2 + 3 * (i : Int) ∧ Keeps (fun c => c = p ∨ h.next ≤ c) h h' ∧ h.next + 1 < h'.next ∧ h'.get h.next = some (.cells .rw [.int .i64 0, .nils, .nils]) ∧ h'.get (h.next + 1) = some (.cells .rw [.int .i64 e, L, .nils]) ∧ (∀ b, blkOf L b → h.next ≤ b) ∧
      (Opd.t 0).ev tm = .ptr p 0 ∧ (Opd.t 2).ev tm = .int .i64 drams ∧ (Opd.t 6).ev tm = .ptr h.next 0 ∧ (Opd.t 8).ev tm = .ptr (h.next + 1) 0 ∧ (Opd.t 19).ev tm = .int .i64 (Nn : Int) ∧ (Opd.t 20).ev tm = .int .i64 (i : Int))
    ?_ ?_ (i := 0) (Nat.zero_le _) ⟨_, _, .nils, [], T + 1 + 1, rfl, s2, OwnSl.nil s2 2, rfl, LotsOk.nil, p2, by omega, by omega, K2, by omega, g2, g82, fun b hb => (blkOf_nils hb).elim, (by simp [ev_c, ev_put] <;> rfl), (by simp [ev_c, ev_put] <;> rfl), (by simp [ev_c, ev_put] <;> rfl), (by simp [ev_c, ev_put] <;> rfl), (by simp [ev_c, ev_put] <;> rfl), (by simp [ev_c, ev_put] <;> rfl)⟩
  · rintro i s hi ⟨tm, hH, L, l, T', rfl, sH, oLH, hli, hlo, pH, T0, T1, KH, lt, g6H, g8H, oLN, t0, t2, t6, t8, t19, t20⟩
    have hi' : (i : Int) < (Nn : Int) := by omega
    by_cases hi0 : 0 < (i : Int)
    · simp -implicitDefEqProofs (maxSteps := 999999) (disch := first | with_reducible rfl | omega | (simp only [nA, nS, nD] <;> omega) | fail) only [go_sem, t0, t2, t6, t8, t19, t20, hi', hi0]
      refine Once_ev sH hw0 hx hp0 pH (by omega) (by omega) _ fun t h1' s1' p1' k1' n1' => ?_
      have oL1' := oLH.keep k1' s1' fun b hb e => (oLH.ne (spGet pH)) (e ▸ hb)
      have g81' := k1'.2 _ _ g8H (by omega)
      have g61' := k1'.2 _ _ g6H (by omega)
      have K1' : Keeps (fun c => c = p ∨ h.next ≤ c) h h1' := (KH.trans k1').mono fun c hc => hc.elim id .inl
      clear pH oLH g8H g6H KH sH s1
      cases t
      · simp -implicitDefEqProofs (maxSteps := 999999) (disch := first | with_reducible rfl | omega | (simp only [nA, nS, nD] <;> omega) | fail) only [go_sem, t0, t2, t6, t8, t19, t20, Bool.not_false, wr_in]
        refine From_ev s1' hw0 hx hp0 p1' (by omega) (by omega) (by omega) _ fun f h2' f0 f1 sH pH k2' n2' => ?_
        have oLH := oL1'.keep k2' sH fun b hb e => (oL1'.ne (spGet p1')) (e ▸ hb)
        have g8H := k2'.2 _ _ g81' (by omega)
        have g6H := k2'.2 _ _ g61' (by omega)
        have KH : Keeps (fun c => c = p ∨ h.next ≤ c) h h2' := (K1'.trans k2').mono fun c hc => hc.elim id .inl
        simp -implicitDefEqProofs (maxSteps := 999999) (disch := first | with_reducible rfl | omega | (simp only [nA, nS, nD] <;> omega) | fail) only [go_sem, t0, t2, t6, t8, t19, t20, cells_of g8H]
        refine Upto_ev sH hw0 hx hp0 pH (by omega) (by omega) _ fun kd h3 kd0 kd1 s3 p3 k3 n3 => ?_
        have oL3 := oLH.keep k3 s3 fun b hb e => (oLH.ne (spGet pH)) (e ▸ hb)
        have g83 := k3.2 _ _ g8H (by omega)
        have g63 := k3.2 _ _ g6H (by omega)
        have L1 := OwnC.one oL3.c
        have sA := (H.Sub.refl s3.wf).add (.cells .rw [.int .i64 f, .int .i64 kd])
        have hll : (l.map Go.Ab.Try.encL).length ≤ 12 := by simp only [List.length_map]; omega
        simp -implicitDefEqProofs (maxSteps := 999999) (disch := first | with_reducible rfl | omega | (simp only [nA, nS, nD] <;> omega) | fail) only [go_sem, t0, t2, t6, t8, t19, t20, cells_of g8H, cells_of g83]
        refine (oL3.mono sA).app1 (r := [.int .i64 f, .int .i64 kd]) hw0 rfl (by omega) (SlAt.new _ rfl rfl rfl (by simp) (by simp)) rfl (by omega) (by omega) fun h4 o4 k4 n4 => ?_
        have g84 := k4.2 _ _ (sA.get g83) ((oL3.mono sA).ne (sA.get g83))
        have g64 := k4.2 _ _ (sA.get g63) ((oL3.mono sA).ne (sA.get g63))
        have p4 : SpAt h4 p x ((T' + 1 + 1) + 1) := (p3.mono sA).keep k4 ((oL3.mono sA).ne (spGet (p3.mono sA)))
        have l4 := k4.1
        simp only [H.next_add] at n4 o4 l4
        have z84 := cells_of g84
        have K4 : Keeps (fun c => c = p ∨ h.next ≤ c) h h4 := by
          refine (((KH.trans k3).trans (Keeps.of sA (fun _ => False))).trans k4).mono ?_
          rintro c (((h | h) | h) | h)
          · exact h
          · exact .inl h
          · exact h.elim
          · exact .inr (by have := (oLH.blk h).1; exact oLN c h)
        simp -implicitDefEqProofs (maxSteps := 999999) (disch := first | with_reducible rfl | omega | (simp only [nA, nS, nD] <;> omega) | fail) only [go_sem, t0, t2, t6, t8, t19, t20, cells_of g8H, cells_of g83, (sA.cells (cells_of g83)), z84, g84, V.one, V.cells, wr_succ]
        refine ⟨_, _, _, l ++ [⟨f, kd⟩], (T' + 1 + 1) + 1, rfl, o4.1.set (by omega) (by omega) hw0 _, ?_, by simp [hli], hlo.snoc ⟨by omega, by omega⟩ ⟨by omega, by omega⟩, p4.keep (Keeps.set _ _ _) (by omega), by omega, by omega, (K4.trans (Keeps.set _ _ _)).mono ?_, by simp only [H.next_set]; omega, by rw [get_set_other (by omega)]; exact g64, get_set_same rfl, ?_, (by simp [ev_c, ev_put, t0] <;> rfl), (by simp [ev_c, ev_put, t2] <;> rfl), (by simp [ev_c, ev_put, t6] <;> rfl), (by simp [ev_c, ev_put, t8] <;> rfl), (by simp [ev_c, ev_put, t19] <;> rfl), (by simp [ev_c, ev_put] <;> rfl)⟩
        · rw [List.map_append]
          exact o4.keep (Keeps.set h4 (h.next + 1) _) (o4.1.set (by omega) (by omega) hw0 _) fun b hb e => (o4.ne g84) (e ▸ hb)
        · rintro c (h | h)
          · exact h
          · exact .inr (by omega)
        · rintro b ⟨_, _, _, e⟩; cases e; omega
      · have sH := s1'
        have pH := p1'
        have oLH := oL1'
        have g8H := g81'
        have g6H := g61'
        have KH := K1'
        simp -implicitDefEqProofs (maxSteps := 999999) (disch := first | with_reducible rfl | omega | (simp only [nA, nS, nD] <;> omega) | fail) only [go_sem, t0, t2, t6, t8, t19, t20, Bool.not_true, cells_of g8H]
        refine Upto_ev sH hw0 hx hp0 pH (by omega) (by omega) _ fun kd h3 kd0 kd1 s3 p3 k3 n3 => ?_
        have oL3 := oLH.keep k3 s3 fun b hb e => (oLH.ne (spGet pH)) (e ▸ hb)
        have g83 := k3.2 _ _ g8H (by omega)
        have g63 := k3.2 _ _ g6H (by omega)
        have L1 := OwnC.one oL3.c
        have sA := (H.Sub.refl s3.wf).add (.cells .rw [.int .i64 (-1), .int .i64 kd])
        have hll : (l.map Go.Ab.Try.encL).length ≤ 12 := by simp only [List.length_map]; omega
        simp -implicitDefEqProofs (maxSteps := 999999) (disch := first | with_reducible rfl | omega | (simp only [nA, nS, nD] <;> omega) | fail) only [go_sem, t0, t2, t6, t8, t19, t20, cells_of g8H, cells_of g83]
        refine (oL3.mono sA).app1 (r := [.int .i64 (-1), .int .i64 kd]) hw0 rfl (by omega) (SlAt.new _ rfl rfl rfl (by simp) (by simp)) rfl (by omega) (by omega) fun h4 o4 k4 n4 => ?_
        have g84 := k4.2 _ _ (sA.get g83) ((oL3.mono sA).ne (sA.get g83))
        have g64 := k4.2 _ _ (sA.get g63) ((oL3.mono sA).ne (sA.get g63))
        have p4 : SpAt h4 p x ((T' + 1) + 1) := (p3.mono sA).keep k4 ((oL3.mono sA).ne (spGet (p3.mono sA)))
        have l4 := k4.1
        simp only [H.next_add] at n4 o4 l4
        have z84 := cells_of g84
        have K4 : Keeps (fun c => c = p ∨ h.next ≤ c) h h4 := by
          refine (((KH.trans k3).trans (Keeps.of sA (fun _ => False))).trans k4).mono ?_
          rintro c (((h | h) | h) | h)
          · exact h
          · exact .inl h
          · exact h.elim
          · exact .inr (by have := (oLH.blk h).1; exact oLN c h)
        simp -implicitDefEqProofs (maxSteps := 999999) (disch := first | with_reducible rfl | omega | (simp only [nA, nS, nD] <;> omega) | fail) only [go_sem, t0, t2, t6, t8, t19, t20, cells_of g8H, cells_of g83, (sA.cells (cells_of g83)), z84, g84, V.one, V.cells, wr_succ]
        refine ⟨_, _, _, l ++ [⟨(-1), kd⟩], (T' + 1) + 1, rfl, o4.1.set (by omega) (by omega) hw0 _, ?_, by simp [hli], hlo.snoc ⟨by omega, by omega⟩ ⟨by omega, by omega⟩, p4.keep (Keeps.set _ _ _) (by omega), by omega, by omega, (K4.trans (Keeps.set _ _ _)).mono ?_, by simp only [H.next_set]; omega, by rw [get_set_other (by omega)]; exact g64, get_set_same rfl, ?_, (by simp [ev_c, ev_put, t0] <;> rfl), (by simp [ev_c, ev_put, t2] <;> rfl), (by simp [ev_c, ev_put, t6] <;> rfl), (by simp [ev_c, ev_put, t8] <;> rfl), (by simp [ev_c, ev_put, t19] <;> rfl), (by simp [ev_c, ev_put] <;> rfl)⟩
        · rw [List.map_append]
          exact o4.keep (Keeps.set h4 (h.next + 1) _) (o4.1.set (by omega) (by omega) hw0 _) fun b hb e => (o4.ne g84) (e ▸ hb)
        · rintro c (h | h)
          · exact h
          · exact .inr (by omega)
        · rintro b ⟨_, _, _, e⟩; cases e; omega
    · simp -implicitDefEqProofs (maxSteps := 999999) (disch := first | with_reducible rfl | omega | (simp only [nA, nS, nD] <;> omega) | fail) only [go_sem, t0, t2, t6, t8, t19, t20, hi', hi0, cells_of g8H]
      refine Upto_ev sH hw0 hx hp0 pH (by omega) (by omega) _ fun kd h3 kd0 kd1 s3 p3 k3 n3 => ?_
      have oL3 := oLH.keep k3 s3 fun b hb e => (oLH.ne (spGet pH)) (e ▸ hb)
      have g83 := k3.2 _ _ g8H (by omega)
      have g63 := k3.2 _ _ g6H (by omega)
      have L1 := OwnC.one oL3.c
      have sA := (H.Sub.refl s3.wf).add (.cells .rw [.int .i64 (-1), .int .i64 kd])
      have hll : (l.map Go.Ab.Try.encL).length ≤ 12 := by simp only [List.length_map]; omega
      simp -implicitDefEqProofs (maxSteps := 999999) (disch := first | with_reducible rfl | omega | (simp only [nA, nS, nD] <;> omega) | fail) only [go_sem, t0, t2, t6, t8, t19, t20, cells_of g8H, cells_of g83]
      refine (oL3.mono sA).app1 (r := [.int .i64 (-1), .int .i64 kd]) hw0 rfl (by omega) (SlAt.new _ rfl rfl rfl (by simp) (by simp)) rfl (by omega) (by omega) fun h4 o4 k4 n4 => ?_
      have g84 := k4.2 _ _ (sA.get g83) ((oL3.mono sA).ne (sA.get g83))
      have g64 := k4.2 _ _ (sA.get g63) ((oL3.mono sA).ne (sA.get g63))
      have p4 : SpAt h4 p x (T' + 1) := (p3.mono sA).keep k4 ((oL3.mono sA).ne (spGet (p3.mono sA)))
      have l4 := k4.1
      simp only [H.next_add] at n4 o4 l4
      have z84 := cells_of g84
      have K4 : Keeps (fun c => c = p ∨ h.next ≤ c) h h4 := by
        refine (((KH.trans k3).trans (Keeps.of sA (fun _ => False))).trans k4).mono ?_
        rintro c (((h | h) | h) | h)
        · exact h
        · exact .inl h
        · exact h.elim
        · exact .inr (by have := (oLH.blk h).1; exact oLN c h)
      simp -implicitDefEqProofs (maxSteps := 999999) (disch := first | with_reducible rfl | omega | (simp only [nA, nS, nD] <;> omega) | fail) only [go_sem, t0, t2, t6, t8, t19, t20, cells_of g8H, cells_of g83, (sA.cells (cells_of g83)), z84, g84, V.one, V.cells, wr_succ]
      refine ⟨_, _, _, l ++ [⟨(-1), kd⟩], T' + 1, rfl, o4.1.set (by omega) (by omega) hw0 _, ?_, by simp [hli], hlo.snoc ⟨by omega, by omega⟩ ⟨by omega, by omega⟩, p4.keep (Keeps.set _ _ _) (by omega), by omega, by omega, (K4.trans (Keeps.set _ _ _)).mono ?_, by simp only [H.next_set]; omega, by rw [get_set_other (by omega)]; exact g64, get_set_same rfl, ?_, (by simp [ev_c, ev_put, t0] <;> rfl), (by simp [ev_c, ev_put, t2] <;> rfl), (by simp [ev_c, ev_put, t6] <;> rfl), (by simp [ev_c, ev_put, t8] <;> rfl), (by simp [ev_c, ev_put, t19] <;> rfl), (by simp [ev_c, ev_put] <;> rfl)⟩
      · rw [List.map_append]
        exact o4.keep (Keeps.set h4 (h.next + 1) _) (o4.1.set (by omega) (by omega) hw0 _) fun b hb e => (o4.ne g84) (e ▸ hb)
      · rintro c (h | h)
        · exact h
        · exact .inr (by omega)
      · rintro b ⟨_, _, _, e⟩; cases e; omega
  · rintro s ⟨tm, hH, L, l, T', rfl, sH, oLH, hli, hlo, pH, T0, T1, KH, lt, g6H, g8H, oLN, t0, t2, t6, t8, t19, t20⟩
    subst hli
    have hN : l.length ≤ 12 := by omega
    have L1 := OwnC.one oLH.c
    have aLH := oLH.sl (by simp only [List.length_map]; omega)
    have hlenL := aLH.lenE
    obtain ⟨m, em⟩ : ∃ m : Ml, m = ⟨e, l, []⟩ := ⟨_, rfl⟩
    have em1 : m.lots = l := by rw [em]
    have em2 : m.wgs = [] := by rw [em]
    have em3 : m.errs = e := by rw [em]
    have g : Good m := by rw [em]; exact good_made (by omega) (by omega) hlo
    have F := forest g
    have nLp : ∀ b, blkOf L b → b ≠ p := fun b hb e => (oLH.ne (spGet pH)) (e ▸ hb)
    have nLR : ∀ b, blkOf L b → b < hH.next := fun b hb => (oLH.blk hb).2.1
    have nLt : ∀ b, blkOf L b → b ≠ h.next + 1 ∧ b ≠ h.next := fun b hb => ⟨fun e => (oLH.ne g8H) (e ▸ hb), fun e => (oLH.ne g6H) (e ▸ hb)⟩
    have hz := tab_zero l.length
    have sR := (H.Sub.refl sH.wf).add (.cells .rw (tab (fun _ => 0) l.length))
    have gR : (hH.add (.cells .rw (tab (fun _ => 0) l.length))).get hH.next = some (.cells .rw (tab (fun _ => 0) l.length)) := get_add_new rfl
    have lR : (hH.add (.cells .rw (tab (fun _ => 0) l.length))).next = hH.next + 1 := H.next_add _ _
    simp -implicitDefEqProofs (maxSteps := 999999) (disch := first | with_reducible rfl | omega | (simp only [nA, nS, nD] <;> omega) | fail) only [go_sem, t0, t2, t6, t8, t19, t20, Int.lt_irrefl, cells_of g8H, hlenL, a_msl_nm, hz]
    generalize hH.add (.cells .rw (tab (fun _ => 0) l.length)) = hR at sR gR lR ⊢
    have g8R := sR.get g8H
    have KR : Keeps (fun c => c = p ∨ h.next ≤ c) h hR := (KH.trans (Keeps.of sR (fun _ => False))).mono fun c hc => hc.elim id False.elim
    simp -implicitDefEqProofs (maxSteps := 999999) (disch := first | with_reducible rfl | omega | (simp only [nA, nS, nD] <;> omega) | fail) only [go_sem, t0, t2, t6, t8, cells_of g8R, hlenL, wr_in]
    refine W_loop (fun k s => ∃ (tm : Go.Ab.T V) (h' : H) (i : Int) (r : Int → Int) (T' : Int), s = ⟨tm, h', []⟩ ∧ -1 ≤ i ∧ i < (l.length : Int) ∧ (k : Int) = i + 1 ∧ RealI m drams i r ∧ h0.Sub h' ∧ SlAt h' L 2 (l.map encL) ∧ SpAt h' p x T' ∧ 0 ≤ T' ∧ T' ≤ T + 2 + 3 * (l.length : Int) + ((l.length : Int) - 1 - i) ∧ Keeps (fun c => c = p ∨ h.next ≤ c) h h' ∧ hH.next < h'.next ∧
        h'.get h.next = some (.cells .rw [.int .i64 0, .nils, .nils]) ∧ h'.get (h.next + 1) = some (.cells .rw [.int .i64 e, L, .nils]) ∧ h'.get hH.next = some (.cells .rw (tab r l.length)) ∧
        (Opd.t 0).ev tm = .ptr p 0 ∧ (Opd.t 2).ev tm = .int .i64 drams ∧ (Opd.t 6).ev tm = .ptr h.next 0 ∧ (Opd.t 8).ev tm = .ptr (h.next + 1) 0 ∧ (Opd.t 11).ev tm = .sl hH.next 0 l.length (.fix l.length) ∧ (Opd.t 12).ev tm = .int .i64 i)
      ?_ l.length _ ⟨_, _, (l.length : Int) - 1, fun _ => 0, T', rfl, by omega, by omega, by omega, by have := RealI.start (D := drams) g; rw [em1] at this; exact this, sH.trans sR, aLH.mono sR, pH.mono sR, T0, by omega, KR, by omega, sR.get g6H, g8R, gR, (by simp [ev_c, ev_put, t0] <;> rfl), (by simp [ev_c, ev_put, t2] <;> rfl), (by simp [ev_c, ev_put, t6] <;> rfl), (by simp [ev_c, ev_put, t8] <;> rfl), (by simp [ev_c, ev_put] <;> rfl), (by simp [ev_c, ev_put] <;> rfl)⟩
    clear t0 t2 t6 t8 t19 t20 gR g8R sR lR KR pH oLH
    rintro k s ⟨tm, h', i, r, T2, rfl, i0, i1, hk, hI, s', aL', p', T20, T21, K', lt', g6', g8', gR', t0, t2, t6, t8, t11, t12⟩
    by_cases hi0 : 0 ≤ i
    · obtain ⟨ii, rfl⟩ := Int.eq_ofNat_of_zero_le hi0
      have hii : ii < l.length := by omega
      have hiim : ii < m.lots.length := by rw [em1]; exact hii
      have hi1m : (ii : Int) < m.lots.length := by omega
      have hmI : ∀ hh : H, SlAt hh L 2 (l.map encL) → MlIs hh (.agg [.int .i64 e, L, .nils]) m := fun hh a => ⟨L, .nils, by rw [em3], by rw [em1]; exact a, by rw [em2]; exact ⟨by simp, by simp, .inl ⟨rfl, rfl⟩⟩⟩
      obtain ⟨J, hJ⟩ : ∃ J : St → Prop, ∀ s, J s ↔ ∃ tm h2 r1 d T3, s = ⟨tm, h2, []⟩ ∧ (0 ≤ d ∧ d ≤ drams) ∧ r1 = (if parts m (ii : Int) = [] then up1 r (ii : Int) d else r) ∧ h0.Sub h2 ∧ SlAt h2 L 2 (l.map encL) ∧ SpAt h2 p x T3 ∧ 0 ≤ T3 ∧ T3 ≤ T2 + 1 ∧ Keeps (fun c => c = p ∨ h.next ≤ c) h h2 ∧ hH.next < h2.next ∧
          h2.get h.next = some (.cells .rw [.int .i64 0, .nils, .nils]) ∧ h2.get (h.next + 1) = some (.cells .rw [.int .i64 e, L, .nils]) ∧ h2.get hH.next = some (.cells .rw (tab r1 l.length)) ∧
          (Opd.t 0).ev tm = .ptr p 0 ∧ (Opd.t 2).ev tm = .int .i64 drams ∧ (Opd.t 6).ev tm = .ptr h.next 0 ∧ (Opd.t 8).ev tm = .ptr (h.next + 1) 0 ∧ (Opd.t 11).ev tm = .sl hH.next 0 l.length (.fix l.length) ∧ (Opd.t 12).ev tm = .int .i64 (ii : Int) := ⟨_, fun _ => Iff.rfl⟩
      simp -implicitDefEqProofs (maxSteps := 999999) (disch := first | with_reducible rfl | omega | (simp only [nA, nS, nD] <;> omega) | fail) only [go_sem, t0, t2, t6, t8, t11, t12, hi0, cells_of g8']
      refine whole_ev s'.wf (hmI _ aL') (ii : Int) _ fun h2 s2' => ?_
      have K2' : Keeps (fun c => c = p ∨ h.next ≤ c) h h2 := (K'.trans (Keeps.of s2' (fun _ => False))).mono fun c hc => hc.elim id False.elim
      have l2' := s2'.next
      simp -implicitDefEqProofs (maxSteps := 999999) (disch := first | with_reducible rfl | omega | (simp only [nA, nS, nD] <;> omega) | fail) only [go_sem]
      refine PB_cut (p := parts m (ii : Int) = []) J ?_ ?_ ?_
      · intro hp
        simp -implicitDefEqProofs (maxSteps := 999999) (disch := first | with_reducible rfl | omega | (simp only [nA, nS, nD] <;> omega) | fail) only [go_sem, t0, t2, t6, t8, t11, t12]
        refine Upto_ev (s'.trans s2') hw0 hx hp0 (p'.mono s2') (by omega) (by omega) _ fun d h3 d0 d1 s3 p3 k3 n3 => ?_
        have g63 := k3.2 _ _ (s2'.get g6') (by omega)
        have g83 := k3.2 _ _ (s2'.get g8') (by omega)
        have gR3 := k3.2 _ _ (s2'.get gR') (by have := KH.1; omega)
        have a3 := SlAt_keep (aL'.mono s2') k3 fun b hb e => nLp b hb e
        simp -implicitDefEqProofs (maxSteps := 999999) (disch := first | with_reducible rfl | omega | (simp only [nA, nS, nD] <;> omega) | fail) only [go_sem, t0, t2, t6, t8, t11, t12, q_iad_sl (nat_cst ii) hii, Nat.mul_one, gR3, tab_st2 hii]
        have K3 : Keeps (fun c => c = p ∨ h.next ≤ c) h (h3.set hH.next (.cells .rw (tab (fset r (ii : Int) d) l.length))) := ((K2'.trans k3).trans (Keeps.set _ _ _)).mono (by
          rintro c ((h | h) | h)
          · exact h
          · exact .inl h
          · exact .inr (by have := KH.1; omega))
        have hb0 : h0.next ≤ hH.next := by have := hs.next; have := KH.1; omega
        exact ⟨rfl, (hJ _).2 ⟨_, _, fset r (ii : Int) d, d, T2 + 1, rfl, ⟨d0, by omega⟩, by rw [if_pos hp]; rfl, s3.set hb0 (by omega) hw0 _, SlAt_keep a3 (Keeps.set _ _ _) fun b hb e => by have := nLR b hb; omega, p3.keep (Keeps.set _ _ _) (by have := KH.1; omega), by omega, by omega, K3, by rw [H.next_set]; omega,
          by rw [get_set_other (by omega)]; exact g63, by rw [get_set_other (by omega)]; exact g83, get_set_same rfl, (by simp [ev_c, ev_put, t0] <;> rfl), (by simp [ev_c, ev_put, t2] <;> rfl), (by simp [ev_c, ev_put, t6] <;> rfl), (by simp [ev_c, ev_put, t8] <;> rfl), (by simp [ev_c, ev_put, t11] <;> rfl), (by simp [ev_c, ev_put, t12] <;> rfl)⟩⟩
      · intro hp
        simp -implicitDefEqProofs (maxSteps := 999999) (disch := first | with_reducible rfl | omega | (simp only [nA, nS, nD] <;> omega) | fail) only [go_sem]
        exact ⟨rfl, (hJ _).2 ⟨_, _, r, 0, T2, rfl, ⟨by omega, by omega⟩, by rw [if_neg hp], s'.trans s2', aL'.mono s2', p'.mono s2', T20, by omega, K2', by omega, s2'.get g6', s2'.get g8', s2'.get gR', (by simp [ev_c, ev_put, t0] <;> rfl), (by simp [ev_c, ev_put, t2] <;> rfl), (by simp [ev_c, ev_put, t6] <;> rfl), (by simp [ev_c, ev_put, t8] <;> rfl), (by simp [ev_c, ev_put, t11] <;> rfl), (by simp [ev_c, ev_put, t12] <;> rfl)⟩⟩
      · clear t0 t2 t6 t8 t11 t12 g6' g8' gR' aL' p' s2' K2' l2' K' lt' s'
        intro s hs2
        obtain ⟨tm, h2, r1, d, T3, rfl, hd, e1, s2, a2, p2', T30, T31, K2', lt2, g62, g82', gR2, t0, t2, t6, t8, t11, t12⟩ := (hJ s).1 hs2
        have hf : frmAt m (ii : Int) = l[ii].frm := by rw [frmAt_nat hiim]; simp only [em1]
        obtain ⟨b3, o3, c3, cs3, e3, hcs3, hq3, hgg3, hn3, hn03⟩ := a2.at hii
        have hlow := frmAt_lt g hi0 hi1m
        have hpush := hI.push g hi0 hi1m hd e1 (r2 := if frmAt m (ii : Int) = -1 then r1 else up1 r1 (frmAt m (ii : Int)) (r1 (frmAt m (ii : Int)) + r1 (ii : Int))) rfl
        obtain ⟨hI2, hbd⟩ := hpush
        rw [em1] at hbd
        have hD : drams * ((l.length : Int) - (ii : Int)) ≤ 300 * 12 := Int.le_trans (Int.mul_le_mul_of_nonneg_right hdr.2 (by omega)) (by omega)
        rw [hf] at hI2 hbd hlow
        by_cases hr : l[ii].frm = -1
        · rw [if_pos hr] at hI2
          simp -implicitDefEqProofs (maxSteps := 999999) (disch := first | with_reducible rfl | omega | (simp only [nA, nS, nD] <;> omega) | fail) only [go_sem, t0, t2, t6, t8, t11, t12, cells_of g82', hq3 (nat_cst ii), hcs3, hn03 (by omega), encL, hr, ne_eq, not_true_eq_false, wr_in]
          exact ⟨ii, by omega, _, _, (ii : Int) - 1, r1, T3, rfl, by omega, by omega, by omega, hI2, s2, a2, p2', T30, by omega, K2', lt2, g62, g82', gR2, (by simp [ev_c, ev_put, t0] <;> rfl), (by simp [ev_c, ev_put, t2] <;> rfl), (by simp [ev_c, ev_put, t6] <;> rfl), (by simp [ev_c, ev_put, t8] <;> rfl), (by simp [ev_c, ev_put, t11] <;> rfl), (by simp [ev_c, ev_put] <;> rfl)⟩
        · rw [if_neg hr] at hI2
          have hbd2 := hbd hr
          obtain ⟨ff, ef⟩ := Int.eq_ofNat_of_zero_le (show 0 ≤ l[ii].frm by omega)
          rw [ef] at hI2 hbd2 hlow
          have hff : ff < l.length := by omega
          have hr' : ¬ (ff : Int) = -1 := by omega
          simp -implicitDefEqProofs (maxSteps := 999999) (disch := first | with_reducible rfl | omega | (simp only [nA, nS, nD] <;> omega) | fail) only [go_sem, t0, t2, t6, t8, t11, t12, cells_of g82', hq3 (nat_cst ii), hcs3, hn03 (by omega), encL, ef, hr', ne_eq, not_false_eq_true, q_iad_sl (nat_cst ii) hii, q_iad_sl (nat_cst ff) hff, Nat.mul_one, cells_of gR2, gR2, tab_at2 hii, tab_at2 hff, tab_st2 hff, wr_in]
          have hb0 : h0.next ≤ hH.next := by have := hs.next; have := KH.1; omega
          have K3 : Keeps (fun c => c = p ∨ h.next ≤ c) h (h2.set hH.next (.cells .rw (tab (fset r1 (ff : Int) (r1 (ff : Int) + r1 (ii : Int))) l.length))) := (K2'.trans (Keeps.set _ _ _)).mono (by
            rintro c (h | h)
            · exact h
            · exact .inr (by have := KH.1; omega))
          exact ⟨ii, by omega, _, _, (ii : Int) - 1, fset r1 (ff : Int) (r1 (ff : Int) + r1 (ii : Int)), T3, rfl, by omega, by omega, by omega, hI2, s2.set hb0 (by omega) hw0 _, SlAt_keep a2 (Keeps.set _ _ _) fun b hb e => by have := nLR b hb; omega, p2'.keep (Keeps.set _ _ _) (by have := KH.1; omega), T30, by omega, K3, by rw [H.next_set]; omega,
            by rw [get_set_other (by omega)]; exact g62, by rw [get_set_other (by omega)]; exact g82', get_set_same rfl, (by simp [ev_c, ev_put, t0] <;> rfl), (by simp [ev_c, ev_put, t2] <;> rfl), (by simp [ev_c, ev_put, t6] <;> rfl), (by simp [ev_c, ev_put, t8] <;> rfl), (by simp [ev_c, ev_put, t11] <;> rfl), (by simp [ev_c, ev_put] <;> rfl)⟩
    · have hi1' : i = -1 := by omega
      subst hi1'
      have hn1 : ¬ (0 : Int) ≤ -1 := by omega
      simp -implicitDefEqProofs (maxSteps := 999999) (disch := first | with_reducible rfl | omega | (simp only [nA, nS, nD] <;> omega) | fail) only [go_sem, t0, t2, t6, t8, t11, t12, hn1, cells_of g8', g6', L1, cells_one L1]
      have hb0 : h0.next ≤ h.next := hs.next
      have K3 : Keeps (fun c => c = p) h (h'.set h.next (.cells .rw [.int .i64 e, L, .nils])) := Keeps.new hw ((K'.trans (Keeps.set _ _ _)).mono (by
        rintro c (h | h)
        · exact h
        · exact .inr (by omega)))
      exact q e l r L hH.next _ T2 ⟨e0, by omega⟩ ⟨by omega, by omega⟩ hlo (by rw [← em]; exact hI) (s'.set hb0 (by omega) hw0 _) (p'.keep (Keeps.set _ _ _) (by omega)) ⟨T20, by omega⟩ K3 (SlAt_keep aL' (Keeps.set _ _ _) fun b hb e => (nLt b hb).2 e) L1 (fun c hc => ⟨nLp c hc, oLN c hc⟩) (by have := KH.1; omega) (by rw [get_set_other (by omega)]; exact gR')
end Try
end Go.Ab
set_option linter.unusedSimpArgs false
set_option linter.unusedVariables false
namespace Go.Ab.Try
open Go.Ab.Silk
set_option maxHeartbeats 1000000 in
theorem Read_ev {h0 h : H} {p : Nat} {x L W : V} {bs : List Int} {T e : Int} (hs : h0.Sub h) (hw0 : h0.wf) (hx : SlAt h0 x 1 (bs.map encU8)) (hp0 : h0.next ≤ p) (hp : SpAt h p x T) (hT : 0 ≤ T ∧ T ≤ 1000000) (hL : L.one = true) (hW : W.one = true) (he : 0 ≤ e ∧ e ≤ 50) (lot : Int) {dry : Int} (hd : 0 ≤ dry ∧ dry ≤ 100000) (Q : V → H → Prop)
    (q : ∀ (w : Wg) h', w.lot = lot → (0 ≤ w.reads ∧ w.reads ≤ 10000) → (0 ≤ w.lo ∧ w.lo ≤ w.hi ∧ w.hi ≤ 60) → h0.Sub h' → SpAt h' p x (T + 4) → Keeps (fun c => c = p) h h' → Q (.agg (encW w)) h') : Ev fnG fastA (.fn 51 [] []) [.ptr p 0, .agg [.int .i64 e, L, W], .int .i64 lot, .int .i64 dry] h Q := by
  have hw := hs.wf
  have hlp := hw _ _ (spGet hp)
  refine Ev_body (fd := c51) rfl rfl rfl ?_
  have sA := ((H.Sub.refl hw).add (.cells .rw [.int .i64 e, L, W])).add (.cells .rw [.int .i64 0, .int .i64 0, .int .i64 0, .int .i64 0])
  have gm : ((h.add (.cells .rw [.int .i64 e, L, W])).add (.cells .rw [.int .i64 0, .int .i64 0, .int .i64 0, .int .i64 0])).get h.next = some (.cells .rw [.int .i64 e, L, W]) := by simp -implicitDefEqProofs (maxSteps := 999999) (disch := first | with_reducible rfl | omega | (simp only [nA, nS, nD] <;> omega) | fail) only [go_sem]
  have gr : ((h.add (.cells .rw [.int .i64 e, L, W])).add (.cells .rw [.int .i64 0, .int .i64 0, .int .i64 0, .int .i64 0])).get (h.next + 1) = some (.cells .rw [.int .i64 0, .int .i64 0, .int .i64 0, .int .i64 0]) := by simp -implicitDefEqProofs (maxSteps := 999999) (disch := first | with_reducible rfl | omega | (simp only [nA, nS, nD] <;> omega) | fail) only [go_sem]
  have lA : ((h.add (.cells .rw [.int .i64 e, L, W])).add (.cells .rw [.int .i64 0, .int .i64 0, .int .i64 0, .int .i64 0])).next = h.next + 2 := by simp only [H.next_add]
  simp -implicitDefEqProofs (maxSteps := 999999) (disch := first | with_reducible rfl | omega | (simp only [nA, nS, nD] <;> omega) | fail) only [c51, go_sem, hL, hW, cells_one hL, cells_one hW]
  generalize ((h.add (.cells .rw [.int .i64 e, L, W])).add (.cells .rw [.int .i64 0, .int .i64 0, .int .i64 0, .int .i64 0])) = hA at sA gm gr lA ⊢
  have KA : Keeps (fun c => c = p ∨ h.next ≤ c) h hA := (Keeps.of sA (fun _ => False)).mono fun c hc => hc.elim
  refine Upto_ev (hs.trans sA) hw0 hx hp0 (hp.mono sA) (by omega) (by omega) _ fun lo h1 lo0 lo1 s1 p1 k1 n1 => ?_
  simp -implicitDefEqProofs (maxSteps := 999999) (disch := first | with_reducible rfl | omega | (simp only [nA, nS, nD] <;> omega) | fail) only [go_sem, wr_in]
  refine From_ev s1 hw0 hx hp0 p1 (by omega) (by omega) (by omega) _ fun hi h2 hi0 hi1 s2 p2 k2 n2 => ?_
  simp -implicitDefEqProofs (maxSteps := 999999) (disch := first | with_reducible rfl | omega | (simp only [nA, nS, nD] <;> omega) | fail) only [go_sem, wr_in]
  refine From_ev s2 hw0 hx hp0 p2 (by omega) (by omega) (by omega) _ fun re h3 re0 re1 s3 p3 k3 n3 => ?_
  have k13 := (k1.trans k2).trans k3
  have gm3 := k13.2 _ _ gm (by omega)
  have hmul : 0 ≤ dry * (100 + re) ∧ dry * (100 + re) ≤ 100000 * 160 := ⟨Int.mul_nonneg hd.1 (by omega), by
    have h1 : dry * (100 + re) ≤ 100000 * (100 + re) := Int.mul_le_mul_of_nonneg_right hd.2 (by omega)
    have h2 : (100000 : Int) * (100 + re) ≤ 100000 * 160 := Int.mul_le_mul_of_nonneg_left (by omega) (by omega)
    omega⟩
  have hq := tdiv_le (a := dry * (100 + re) + 50) (b := 100) (by omega) (by omega)
  have n100 : (100 : Int) ≠ 0 := by omega
  simp -implicitDefEqProofs (maxSteps := 999999) (disch := first | with_reducible rfl | omega | (simp only [nA, nS, nD] <;> omega) | fail) only [go_sem, wr_in, q_ar_quo .i64 n100, cells_of gm3]
  refine From_ev s3 hw0 hx hp0 p3 (by omega) (by omega) (by omega) _ fun er h4 er0 er1 s4 p4 k4 n4 => ?_
  have k14 := k13.trans k4
  have gr4 := k14.2 _ _ gr (by omega)
  simp -implicitDefEqProofs (maxSteps := 999999) (disch := first | with_reducible rfl | omega | (simp only [nA, nS, nD] <;> omega) | fail) only [go_sem, wr_in, gr4]
  have K5 : Keeps (fun c => c = p) h (h4.set (h.next + 1) (.cells .rw [.int .i64 lot, .int .i64 (min 10000 (max 0 ((dry * (100 + re) + 50).tdiv 100 + er))), .int .i64 lo, .int .i64 hi])) := Keeps.new hw (((KA.trans k14).trans (Keeps.set _ _ _)).mono (by
    rintro c ((h | (((h | h) | h) | h)) | h)
    · exact h
    · exact .inl h
    · exact .inl h
    · exact .inl h
    · exact .inl h
    · exact .inr (by omega)))
  have hb0 := hs.next
  have hp4 : SpAt h4 p x (T + 4) := by
    have e4 : T + 1 + 1 + 1 + 1 = T + 4 := by omega
    rw [← e4]; exact p4
  exact q ⟨lot, _, lo, hi⟩ _ rfl ⟨by simp only; omega, by simp only; omega⟩ ⟨by simp only; omega, by simp only; omega, by simp only; omega⟩ (s4.set (by omega) (by have := k14.1; omega) hw0 _) (hp4.keep (Keeps.set _ _ _) (by omega)) K5
def WgsOk (n : Nat) (e : Int) (r : Int → Int) (l : List Wg) : Prop := ∀ w ∈ l, (0 ≤ w.lot ∧ w.lot < n) ∧ (0 ≤ w.reads ∧ w.reads ≤ 10000) ∧ (0 ≤ w.lo ∧ w.lo ≤ w.hi ∧ w.hi ≤ 60) ∧ rightM e w (r w.lot) = true
structure RealM (m : Ml) (r : Int → Int) (D : Int) : Prop where
  good : Good m
  feas : FeasM m allC r
  lim : ∀ j : Int, 0 ≤ j → j < m.lots.length → 0 ≤ r j ∧ r j ≤ D
theorem realM_of {e D : Int} {l : List Lt} {wg : List Wg} {r : Int → Int} (he : 0 ≤ e ∧ e ≤ 50) (h1 : 1 ≤ l.length ∧ l.length ≤ 12) (hl : LotsOk l) (hD : 0 ≤ D ∧ D ≤ 300) (hr : RealI ⟨e, l, []⟩ D (-1) r) (hw : WgsOk l.length e r wg) (hn : wg.length ≤ 10) : RealM ⟨e, l, wg⟩ r 3600 := by
  have g0 := good_made he h1 hl
  obtain ⟨a1, a2⟩ := hr.last g0 hD.1
  have g : Good ⟨e, l, wg⟩ := ⟨h1, hn, he, fun w hm => by obtain ⟨_, b, c, _⟩ := hw w hm; exact ⟨b, ⟨c.1, by omega⟩, ⟨by omega, c.2.2⟩⟩, g0.kind, g0.frm, fun w hm => by obtain ⟨b, _⟩ := hw w hm; exact ⟨b.1, by have := b.2; simp only; omega⟩, fun w hm => (hw w hm).2.2.1.2.1⟩
  have bd : ∀ j : Int, 0 ≤ j → j < (l.length : Int) → 0 ≤ r j ∧ r j ≤ 3600 := fun j j0 j1 => by
    have := a1 j j0 j1; omega
  refine ⟨g, ⟨(own_iff g).2 ⟨fun i i0 i1 => by have := bd i i0 i1; omega, fun k hk _ => ?_⟩, fun i i0 i1 hp => a2 i i0 i1 hp⟩, bd⟩
  have hk' : k < wg.length := hk
  show sayLo ⟨e, l, wg⟩ wg[k] ≤ r wg[k].lot ∧ r wg[k].lot ≤ sayHi ⟨e, l, wg⟩ wg[k]
  obtain ⟨b1, b2, b3, b4⟩ := hw _ (List.getElem_mem hk')
  have := bd _ b1.1 b1.2
  have e5 := right_iff (m := ⟨e, l, wg⟩) (w := wg[k]) (k := r wg[k].lot) b3.1 (by omega) (by simp only; omega) (by omega)
  rw [show (Ml.mk e l wg).errs = e from rfl, b4] at e5
  exact of_decide_eq_true e5.symm
set_option maxRecDepth 4000 in
set_option maxHeartbeats 4000000 in
theorem Weighed_ev {h0 h : H} {p b : Nat} {x L : V} {bs : List Int} {T e : Int} {l : List Lt} {r : Int → Int} (hs : h0.Sub h) (hw0 : h0.wf) (hx : SlAt h0 x 1 (bs.map encU8)) (hp0 : h0.next ≤ p) (hp : SpAt h p x T) (hT : 0 ≤ T ∧ T ≤ 100000) (hl1 : L.one = true) (aL : SlAt h L 2 (l.map encL)) (hll : 1 ≤ l.length ∧ l.length ≤ 12) (he : 0 ≤ e ∧ e ≤ 50)
    (hbp : b ≠ p) (hLp : ∀ c, blkOf L c → c ≠ p) (hb : h.get b = some (.cells .rw (tab r l.length))) (hr : ∀ j : Int, 0 ≤ j → j < l.length → 0 ≤ r j ∧ r j ≤ 100000) {most : Int} (hm : 0 ≤ most ∧ most ≤ 100) (Q : V → H → Prop)
    (q : ∀ wg W h' T', WgsOk l.length e r wg → wg.length ≤ 10 ∧ (wg.length : Int) ≤ most → OwnSl h0 h' W 4 (wg.map encW) → (∀ c, blkOf W c → h.next ≤ c) → SpAt h' p x T' → (0 ≤ T' ∧ T' ≤ T + 600) → Keeps (fun c => c = p) h h' → Q (.agg [.int .i64 e, L, W]) h') :
    Ev fnG fastA (.fn 34 [] []) [.ptr p 0, .agg [.int .i64 e, L, .nils], .sl b 0 l.length (.fix l.length), .int .i64 most] h Q := by
  have hw := hs.wf
  have hlp := hw _ _ (spGet hp)
  have hlb := hw _ _ hb
  have hlenL := aL.lenE
  refine Ev_body (fd := c34) rfl rfl rfl ?_
  have sA := ((H.Sub.refl hw).add (.cells .rw [.int .i64 e, L, .nils])).add (.cells .rw [.int .i64 0, .nils, .nils])
  have gm : ((h.add (.cells .rw [.int .i64 e, L, .nils])).add (.cells .rw [.int .i64 0, .nils, .nils])).get h.next = some (.cells .rw [.int .i64 e, L, .nils]) := by simp -implicitDefEqProofs (maxSteps := 999999) (disch := first | with_reducible rfl | omega | (simp only [nA, nS, nD] <;> omega) | fail) only [go_sem]
  have gr : ((h.add (.cells .rw [.int .i64 e, L, .nils])).add (.cells .rw [.int .i64 0, .nils, .nils])).get (h.next + 1) = some (.cells .rw [.int .i64 0, .nils, .nils]) := by simp -implicitDefEqProofs (maxSteps := 999999) (disch := first | with_reducible rfl | omega | (simp only [nA, nS, nD] <;> omega) | fail) only [go_sem]
  have lA : ((h.add (.cells .rw [.int .i64 e, L, .nils])).add (.cells .rw [.int .i64 0, .nils, .nils])).next = h.next + 2 := by simp only [H.next_add]
  simp -implicitDefEqProofs (maxSteps := 999999) (disch := first | with_reducible rfl | omega | (simp only [nA, nS, nD] <;> omega) | fail) only [c34, go_sem, hl1, cells_one hl1]
  generalize ((h.add (.cells .rw [.int .i64 e, L, .nils])).add (.cells .rw [.int .i64 0, .nils, .nils])) = hA at sA gm gr lA ⊢
  have KA : Keeps (fun c => c = p ∨ h.next ≤ c) h hA := (Keeps.of sA (fun _ => False)).mono fun c hc => hc.elim
  refine Upto_ev (hs.trans sA) hw0 hx hp0 (hp.mono sA) (by omega) (by omega) _ fun N h1 N0 N1 s1 p1 k1 n1 => ?_
  obtain ⟨Nn, rfl⟩ := Int.eq_ofNat_of_zero_le N0
  have gm1 := k1.2 _ _ gm (by omega)
  have gr1 := k1.2 _ _ gr (by omega)
  have gb1 := k1.2 _ _ (sA.get hb) (by omega)
  have K1 : Keeps (fun c => c = p ∨ h.next ≤ c) h h1 := (KA.trans k1).mono fun c hc => hc.elim id .inl
  simp -implicitDefEqProofs (maxSteps := 999999) (disch := first | with_reducible rfl | omega | (simp only [nA, nS, nD] <;> omega) | fail) only [go_sem]
  refine W_count Nn (fun i s => ∃ (tm : Go.Ab.T V) (h' : H) (W : V) (wg : List Wg) (T' : Int), s = ⟨tm, h', []⟩ ∧ h0.Sub h' ∧ OwnSl h0 h' W 4 (wg.map encW) ∧ (∀ c, blkOf W c → h.next + 2 ≤ c) ∧ WgsOk l.length e r wg ∧ (wg.length ≤ 10 ∧ wg.length ≤ i) ∧ SpAt h' p x T' ∧ 0 ≤ T' ∧ T' ≤ T + 1 + 5 * (i : Int) ∧ Keeps (fun c => c = p ∨ h.next ≤ c) h h' ∧ h.next + 1 < h'.next ∧
      h'.get h.next = some (.cells .rw [.int .i64 e, L, W]) ∧ h'.get (h.next + 1) = some (.cells .rw [.int .i64 0, .nils, .nils]) ∧
      (Opd.t 0).ev tm = .ptr p 0 ∧ (Opd.t 2).ev tm = .sl b 0 l.length (.fix l.length) ∧ (Opd.t 5).ev tm = .ptr h.next 0 ∧ (Opd.t 8).ev tm = .ptr (h.next + 1) 0 ∧ (Opd.t 13).ev tm = .int .i64 (Nn : Int) ∧ (Opd.t 14).ev tm = .int .i64 (i : Int))
    ?_ ?_ (i := 0) (Nat.zero_le _) ⟨_, _, .nils, [], T + 1, rfl, s1, OwnSl.nil s1 4, fun c hc => (blkOf_nils hc).elim, fun w hw => by simp at hw, ⟨by simp, by simp⟩, p1, by omega, by omega, K1, by omega, gm1, gr1, (by simp [ev_c, ev_put] <;> rfl), (by simp [ev_c, ev_put] <;> rfl), (by simp [ev_c, ev_put] <;> rfl), (by simp [ev_c, ev_put] <;> rfl), (by simp [ev_c, ev_put] <;> rfl), (by simp [ev_c, ev_put] <;> rfl)⟩
  · rintro i s hi ⟨tm, h', W, wg, T', rfl, s', oW, nW, hok, hlen, p', T0, T1, K', lt, gm', gr', t0, t2, t5, t8, t13, t14⟩
    have hi' : (i : Int) < (Nn : Int) := by omega
    have W1 := OwnC.one oW.c
    simp -implicitDefEqProofs (maxSteps := 999999) (disch := first | with_reducible rfl | omega | (simp only [nA, nS, nD] <;> omega) | fail) only [go_sem, t0, t2, t5, t8, t13, t14, hi', cells_of gm', hlenL, wr_in]
    refine Upto_ev s' hw0 hx hp0 p' (by omega) (by omega) _ fun lt0 h2 a0 a1 s2 p2 k2 n2 => ?_
    obtain ⟨ln, rfl⟩ := Int.eq_ofNat_of_zero_le a0
    have hln : ln < l.length := by omega
    have gb2 := k2.2 _ _ (K'.2 _ _ hb (by omega)) (by omega)
    have gm2 := k2.2 _ _ gm' (by omega)
    have gr2 := k2.2 _ _ gr' (by omega)
    have oW2 := oW.keep k2 s2 fun c hc e => (oW.ne (spGet p')) (e ▸ hc)
    have hrl := hr (ln : Int) (by omega) (by omega)
    simp -implicitDefEqProofs (maxSteps := 999999) (disch := first | with_reducible rfl | omega | (simp only [nA, nS, nD] <;> omega) | fail) only [go_sem, t0, t2, t5, t8, t13, t14, cells_of gm2, q_iad_sl (nat_cst ln) hln, Nat.mul_one, cells_of gb2, tab_at2 hln]
    refine Read_ev s2 hw0 hx hp0 p2 (by omega) hl1 W1 he (ln : Int) hrl _ fun w h3 wl wr' wd s3 p3 k3 => ?_
    have gb3 := k3.2 _ _ gb2 (by omega)
    have gm3 := k3.2 _ _ gm2 (by omega)
    have gr3 := k3.2 _ _ gr2 (by omega)
    have oW3 := oW2.keep k3 s3 fun c hc e => (oW2.ne (spGet p2)) (e ▸ hc)
    have l3 := k3.1
    have sB := (H.Sub.refl s3.wf).add (.cells .rw [.int .i64 w.lot, .int .i64 w.reads, .int .i64 w.lo, .int .i64 w.hi])
    have gB : (h3.add (.cells .rw [.int .i64 w.lot, .int .i64 w.reads, .int .i64 w.lo, .int .i64 w.hi])).get h3.next = some (.cells .rw [.int .i64 w.lot, .int .i64 w.reads, .int .i64 w.lo, .int .i64 w.hi]) := get_add_new rfl
    have lB : (h3.add (.cells .rw [.int .i64 w.lot, .int .i64 w.reads, .int .i64 w.lo, .int .i64 w.hi])).next = h3.next + 1 := H.next_add _ _
    have hlt0 := lt
    have oWB := oW3.mono sB
    have pB := p3.mono sB
    have gbB := sB.get gb3
    have gmB := sB.get gm3
    have grB := sB.get gr3
    have KB : Keeps (fun c => c = p ∨ h.next ≤ c) h (h3.add (.cells .rw [.int .i64 w.lot, .int .i64 w.reads, .int .i64 w.lo, .int .i64 w.hi])) := (((K'.trans k2).trans k3).trans (Keeps.of sB (fun _ => False))).mono (by
      rintro c (((h | h) | h) | h)
      · exact h
      · exact .inl h
      · exact .inl h
      · exact h.elim)
    simp -implicitDefEqProofs (maxSteps := 999999) (disch := first | with_reducible rfl | omega | (simp only [nA, nS, nD] <;> omega) | fail) only [go_sem, t0, t2, t5, t8, t13, t14, cells_of gm2, cells_of gb2, encW]
    generalize h3.add (.cells .rw [.int .i64 w.lot, .int .i64 w.reads, .int .i64 w.lo, .int .i64 w.hi]) = h4 at sB gB lB oWB pB gbB gmB grB KB ⊢
    have w4 := H.Sub.wf sB
    have s4 := s3.trans sB
    have hrt := right_ev (h := h4) (L := L) (W := W) (e := e) (w := w) (n := r (ln : Int)) (by omega) (by omega) (by omega) (by omega) (by omega)
    simp only [encW] at hrt
    have s45 : h4.Sub ((h4.add (.cells .rw [.int .i64 e, L, W])).add (.cells .rw [.int .i64 w.lot, .int .i64 w.reads, .int .i64 w.lo, .int .i64 w.hi])) := ((H.Sub.refl w4).add _).add _
    have l45 := s45.next
    simp -implicitDefEqProofs (maxSteps := 999999) (disch := first | with_reducible rfl | omega | (simp only [nA, nS, nD] <;> omega) | fail) only [go_sem, t0, t2, t5, t8, t13, t14, cells_of gm2, cells_of gm3, cells_of gmB, cells_of gb2, cells_of gb3, cells_of gbB, cells_of gB, q_iad_sl (nat_cst ln) hln, Nat.mul_one, tab_at2 hln, hrt]
    generalize ((h4.add (.cells .rw [.int .i64 e, L, W])).add (.cells .rw [.int .i64 w.lot, .int .i64 w.reads, .int .i64 w.lo, .int .i64 w.hi])) = h5 at s45 l45 ⊢
    have s5 := s4.trans s45
    have gm5 := s45.get gmB
    have gr5 := s45.get grB
    have gb5 := s45.get gbB
    have gB5 := s45.get gB
    have p5 := pB.mono s45
    have oW5 := oWB.mono s45
    have K5 : Keeps (fun c => c = p ∨ h.next ≤ c) h h5 := (KB.trans (Keeps.of s45 (fun _ => False))).mono fun c hc => hc.elim id False.elim
    have hlW : q_len W = some (.int .i64 (wg.length : Int)) := (oW5.sl (by simp only [List.length_map]; omega)).lenE
    cases hri : rightM e w (r (ln : Int))
    · simp -implicitDefEqProofs (maxSteps := 999999) (disch := first | with_reducible rfl | omega | (simp only [nA, nS, nD] <;> omega) | fail) only [go_sem, t0, t2, t5, t8, t13, t14, cells_of gm3, cells_of gmB, cells_of gB, cells_of gbB, q_iad_sl (nat_cst ln) hln, Nat.mul_one, tab_at2 hln, wr_succ]
      exact ⟨_, _, W, wg, T' + 1 + 4, rfl, s5, oW5, nW, hok, ⟨hlen.1, by omega⟩, p5, by omega, by omega, K5, by omega, gm5, gr5, (by simp [ev_c, ev_put, t0] <;> rfl), (by simp [ev_c, ev_put, t2] <;> rfl), (by simp [ev_c, ev_put, t5] <;> rfl), (by simp [ev_c, ev_put, t8] <;> rfl), (by simp [ev_c, ev_put, t13] <;> rfl), (by simp [ev_c, ev_put] <;> rfl)⟩
    · by_cases h10 : (wg.length : Int) < 10
      · have sC := (H.Sub.refl s5.wf).add (.cells .rw [.int .i64 w.lot, .int .i64 w.reads, .int .i64 w.lo, .int .i64 w.hi])
        simp -implicitDefEqProofs (maxSteps := 999999) (disch := first | with_reducible rfl | omega | (simp only [nA, nS, nD] <;> omega) | fail) only [go_sem, t0, t2, t5, t8, t13, t14, cells_of gm3, cells_of gmB, cells_of gm5, cells_of gB, cells_of gB5, cells_of gbB, q_iad_sl (nat_cst ln) hln, Nat.mul_one, tab_at2 hln, hlW, h10]
        refine (oW5.mono sC).app1 (r := encW w) hw0 rfl (by omega) (SlAt.new _ rfl rfl (by simp [encW]) (by simp [encW]) (by simp)) rfl (by simp only [List.length_map]; omega) (by simp only [List.length_map]; omega) fun h6 o6 k6 n6 => ?_
        have gm6 := k6.2 _ _ (sC.get gm5) ((oW5.mono sC).ne (sC.get gm5))
        have gr6 := k6.2 _ _ (sC.get gr5) ((oW5.mono sC).ne (sC.get gr5))
        have p6 := (p5.mono sC).keep k6 ((oW5.mono sC).ne (spGet (p5.mono sC)))
        simp only [H.next_add] at n6 o6
        have K6 : Keeps (fun c => c = p ∨ h.next ≤ c) h (h6.set h.next (.cells .rw [.int .i64 e, L, .sl (h5.next + 1) 0 ((wg.map encW).length + 1) (.slk 0 0)])) := (((K5.trans (Keeps.of sC (fun _ => False))).trans k6).trans (Keeps.set _ _ _)).mono (by
          rintro c (((h | h) | h) | h)
          · exact h
          · exact h.elim
          · exact .inr (by have := nW c h; omega)
          · exact .inr (by omega))
        simp -implicitDefEqProofs (maxSteps := 999999) (disch := first | with_reducible rfl | omega | (simp only [nA, nS, nD] <;> omega) | fail) only [go_sem, t0, t2, t5, t8, t13, t14, cells_of gm6, gm6, wr_succ]
        refine ⟨_, _, .sl (h5.next + 1) 0 ((wg.map encW).length + 1) (.slk 0 0), wg ++ [w], T' + 1 + 4, rfl, o6.1.set (by have := hs.next; omega) (by omega) hw0 _, ?_, ?_, ?_, ⟨by simp; omega, by simp; omega⟩, p6.keep (Keeps.set _ _ _) (by omega), by omega, by omega, K6, by rw [H.next_set]; omega, get_set_same rfl, by rw [get_set_other (by omega)]; exact gr6, (by simp [ev_c, ev_put, t0] <;> rfl), (by simp [ev_c, ev_put, t2] <;> rfl), (by simp [ev_c, ev_put, t5] <;> rfl), (by simp [ev_c, ev_put, t8] <;> rfl), (by simp [ev_c, ev_put, t13] <;> rfl), (by simp [ev_c, ev_put] <;> rfl)⟩
        · rw [List.map_append]
          exact o6.keep (Keeps.set h6 h.next _) (o6.1.set (by have := hs.next; omega) (by omega) hw0 _) fun c hc e => (o6.ne gm6) (e ▸ hc)
        · rintro c ⟨_, _, _, e⟩; cases e; omega
        · intro w' hw'
          rw [List.mem_append, List.mem_singleton] at hw'
          rcases hw' with hw' | rfl
          · exact hok w' hw'
          · exact ⟨⟨by omega, by omega⟩, wr', wd, by rw [wl]; exact hri⟩
      · simp -implicitDefEqProofs (maxSteps := 999999) (disch := first | with_reducible rfl | omega | (simp only [nA, nS, nD] <;> omega) | fail) only [go_sem, t0, t2, t5, t8, t13, t14, cells_of gm3, cells_of gmB, cells_of gm5, cells_of gB, cells_of gbB, q_iad_sl (nat_cst ln) hln, Nat.mul_one, tab_at2 hln, hlW, h10, wr_succ]
        exact ⟨_, _, W, wg, T' + 1 + 4, rfl, s5, oW5, nW, hok, ⟨hlen.1, by omega⟩, p5, by omega, by omega, K5, by omega, gm5, gr5, (by simp [ev_c, ev_put, t0] <;> rfl), (by simp [ev_c, ev_put, t2] <;> rfl), (by simp [ev_c, ev_put, t5] <;> rfl), (by simp [ev_c, ev_put, t8] <;> rfl), (by simp [ev_c, ev_put, t13] <;> rfl), (by simp [ev_c, ev_put] <;> rfl)⟩
  · rintro s ⟨tm, h', W, wg, T', rfl, s', oW, nW, hok, hlen, p', T0, T1, K', lt, gm', gr', t0, t2, t5, t8, t13, t14⟩
    have W1 := OwnC.one oW.c
    simp -implicitDefEqProofs (maxSteps := 999999) (disch := first | with_reducible rfl | omega | (simp only [nA, nS, nD] <;> omega) | fail) only [go_sem, t0, t2, t5, t8, t13, t14, Int.lt_irrefl, cells_of gm', gr', hl1, W1, cells_one hl1, cells_one W1]
    have hb0 := hs.next
    have K3 : Keeps (fun c => c = p) h (h'.set (h.next + 1) (.cells .rw [.int .i64 e, L, W])) := Keeps.new hw ((K'.trans (Keeps.set _ _ _)).mono (by
      rintro c (h | h)
      · exact h
      · exact .inr (by omega)))
    exact q wg W _ T' hok ⟨hlen.1, by omega⟩ (oW.keep (Keeps.set _ _ _) (s'.set (by omega) (by omega) hw0 _) fun c hc e => by have := nW c hc; omega) (fun c hc => by have := nW c hc; omega) (p'.keep (Keeps.set _ _ _) (by omega)) ⟨T0, by omega⟩ K3
end Go.Ab.Try
set_option linter.unusedSimpArgs false
set_option linter.unusedVariables false
namespace Go.Ab.Try
open Go.Ab.Silk
end Go.Ab.Try
set_option linter.unusedSimpArgs false
set_option linter.unusedVariables false
namespace Go.Ab.Try
open Go.Ab.Silk
end Go.Ab.Try
set_option linter.unusedSimpArgs false
set_option linter.unusedVariables false
namespace Go.Ab.Try
open Go.Ab.Silk
section
variable {m : Ml}
def oth (f : Int → Int) (k : Int) : Nat → Int
  | 0 => 0
  | j + 1 => oth f k j + (if (j : Int) = k then 0 else f (j : Int))
end
end Go.Ab.Try
set_option linter.unusedSimpArgs false
set_option linter.unusedVariables false
namespace Go.Ab.Try
open Go.Ab.Silk
theorem check_good {m : Ml} (g : Good m) : check m = 0 := by
  have h1 := g.lots
  have h2 := g.wgs
  have h3 := g.errs
  have c4 : m.wgs.all boundedW = true := List.all_eq_true.2 fun w hw => by simpa [boundedW] using g.wg w hw
  have c5 : m.lots.all (fun l => allowedK l.kind) = true := List.all_eq_true.2 fun l hl => by simpa [allowedK] using g.kind l hl
  have c6 : fromsOk m.lots 0 = true := (fromsOk_iff _ _).2 fun i hi => by simpa using g.frm i hi
  have c7 : m.wgs.all (fun w => inB w.lot 0 ((m.lots.length : Int) - 1)) = true := List.all_eq_true.2 fun w hw => by simpa [inB] using g.lot w hw
  have c8 : m.wgs.all (fun w => decide (w.lo ≤ w.hi)) = true := List.all_eq_true.2 fun w hw => by simpa using g.ord w hw
  unfold check
  rw [if_neg (by omega), if_neg (by omega), if_neg (by omega), c4, c5, c6, c7, c8]
  rfl
theorem spans_at (b : Box) {n i : Nat} (h : i < (spansL b n).length) : (spansL b n)[i] = [(b (i : Int)).1, (b (i : Int)).2] := by simp [spansL]
end Go.Ab.Try
set_option linter.unusedSimpArgs false
set_option linter.unusedVariables false
namespace Go.Ab.Try
open Go.Ab.Silk
def fromN : Nat → Nat → List Int
  | _, 0 => []
  | n, c + 1 => (n : Int) :: fromN (n + 1) c
theorem mem_fromN {p : Int} : ∀ {c n : Nat}, p ∈ fromN n c ↔ (n : Int) ≤ p ∧ p < (n : Int) + (c : Int)
  | 0, n => by simp [fromN]
  | c + 1, n => by
    have ih := mem_fromN (p := p) (c := c) (n := n + 1)
    simp only [fromN, List.mem_cons, ih]
    omega
theorem sum_zero {x : Int → Int} : ∀ {l : List Int}, (∀ p ∈ l, x p = 0) → sumL x l = 0
  | [], _ => rfl
  | a :: l, h => by
    have h1 := h a (by simp)
    have h2 := sum_zero (x := x) (l := l) fun p hp => h p (by simp [hp])
    simp only [sumL]; omega
theorem sum_delta {v : Int} : ∀ {c n q : Nat}, q < c → sumL (fun p => if p = ((n + q : Nat) : Int) then v else 0) (fromN n c) = v
  | c + 1, n, 0, _ => by
    simp only [fromN, sumL, Nat.add_zero, if_pos]
    rw [sum_zero fun p hp => if_neg (by have := mem_fromN.1 hp; omega)]
    simp
  | c + 1, n, q + 1, h => by
    have ih := sum_delta (v := v) (c := c) (n := n + 1) (q := q) (by omega)
    have e : n + 1 + q = n + (q + 1) := by omega
    rw [e] at ih
    simp only [fromN, sumL, ih]
    rw [if_neg (by omega)]; simp
theorem partsL_new {k lot : Int} : ∀ (ks : List Int) (j : Nat), partsL k (ks.map fun a => (⟨lot, a⟩ : Lt)) j = if lot = k then fromN j ks.length else []
  | [], j => by simp [partsL, fromN]
  | a :: ks, j => by
    have ih := partsL_new (k := k) (lot := lot) ks (j + 1)
    simp only [List.map_cons, partsL, ih, List.length_cons, fromN]
    split <;> rfl
section
variable {m : Ml} {lot : Int} {ks : List Int}
theorem split_len : (m.splitB lot ks).lots.length = m.lots.length + ks.length := by simp [Ml.splitB]
theorem split_parts (k : Int) : parts (m.splitB lot ks) k = parts m k ++ if lot = k then fromN m.lots.length ks.length else [] := by
  unfold parts
  show partsL k (m.lots ++ ks.map (fun k => ⟨lot, k⟩)) 0 = _
  rw [partsL_app, Nat.zero_add, partsL_new]
theorem good_split (g : Good m) (h0 : 0 ≤ lot ∧ lot < m.lots.length) (hc : m.lots.length + ks.length ≤ 12) (hk : ∀ k ∈ ks, 0 ≤ k ∧ k ≤ 3) : Good (m.splitB lot ks) := by
  have gl := g.lots
  refine ⟨by rw [split_len]; omega, g.wgs, g.errs, g.wg, fun l hl => ?_, fun i hi => ?_, fun w hw => ?_, g.ord⟩
  · rcases List.mem_append.1 hl with h | h
    · exact g.kind l h
    · obtain ⟨k, hk2, rfl⟩ := List.mem_map.1 h
      exact hk k hk2
  · by_cases h : i < m.lots.length
    · have e : (m.splitB lot ks).lots[i] = m.lots[i] := List.getElem_append_left h
      rw [e]; exact g.frm i h
    · have e : (m.splitB lot ks).lots[i].frm = lot := by
        have hi' : i < (m.lots ++ ks.map fun k => (⟨lot, k⟩ : Lt)).length := hi
        have := List.getElem_append_right (h₂ := hi') (show m.lots.length ≤ i by omega)
        exact (congrArg Lt.frm this).trans (by simp)
      rw [e]; omega
  · have := g.lot w hw
    rw [split_len]; omega
theorem feas_unsplit (g : Good m) (g' : Good (m.splitB lot ks)) (hp : parts m lot = []) {w : Int → Int} (f : FeasM (m.splitB lot ks) allC w) : FeasM m allC w := by
  obtain ⟨f1, f2⟩ := f
  obtain ⟨a, b⟩ := (own_iff g').1 f1
  rw [split_len] at a f2
  refine ⟨(own_iff g).2 ⟨fun i i0 i1 => a i i0 (by omega), b⟩, fun i i0 i1 hi => ?_⟩
  have hne : ¬ lot = i := fun e => hi (e ▸ hp)
  have := f2 i i0 (by omega) (by rw [split_parts, if_neg hne, List.append_nil]; exact hi)
  rw [split_parts, if_neg hne, List.append_nil] at this
  exact this
theorem feas_split (g : Good m) (g' : Good (m.splitB lot ks)) (h0 : 0 ≤ lot ∧ lot < m.lots.length) (hp : parts m lot = []) {w : Int → Int} (f : FeasM m allC w) {q : Nat} (hq : q < ks.length) :
    FeasM (m.splitB lot ks) allC (fun i => if i < (m.lots.length : Int) then w i else if i = ((m.lots.length + q : Nat) : Int) then w lot else 0) := by
  have F := forest g
  obtain ⟨f1, f2⟩ := f
  obtain ⟨a, b⟩ := (own_iff g).1 f1
  refine ⟨(own_iff g').2 ⟨fun i i0 i1 => ?_, fun k hk hc => ?_⟩, fun i i0 i1 hi => ?_⟩
  · split
    · exact a i i0 (by omega)
    · split
      · exact a lot h0.1 h0.2
      · omega
  · have hk' : k < m.wgs.length := hk
    have hl := g.lot _ (List.getElem_mem hk')
    have := b k hk' hc
    have e : (fun i : Int => if i < (m.lots.length : Int) then w i else if i = ((m.lots.length + q : Nat) : Int) then w lot else 0) m.wgs[k].lot = w m.wgs[k].lot := if_pos (by omega)
    rw [← e] at this
    exact this
  · rw [split_parts] at hi ⊢
    by_cases hn : i < (m.lots.length : Int)
    · simp only [if_pos hn]
      by_cases e : lot = i
      · subst e
        rw [if_pos rfl, hp, List.nil_append, sumL_congr (y := fun p => if p = ((m.lots.length + q : Nat) : Int) then w lot else 0) fun p hp => by
          have := mem_fromN.1 hp
          simp only [if_neg (show ¬ p < (m.lots.length : Int) by omega)], sum_delta hq]
      · rw [if_neg e, List.append_nil] at hi ⊢
        rw [f2 i i0 hn hi]
        refine sumL_congr fun p hp => ?_
        have := (F.mem _ _).1 hp
        simp only [if_pos this.2.1]
    · exfalso
      have hpi : parts m i = [] := by
        cases h : parts m i with
        | nil => rfl
        | cons a l =>
          have := (F.mem i a).1 (by rw [h]; simp)
          have := F.lt a this.1 this.2.1
          omega
      rw [hpi, if_neg (by omega)] at hi
      exact hi rfl
theorem split_old (g : Good m) (g' : Good (m.splitB lot ks)) (h0 : 0 ≤ lot ∧ lot < m.lots.length) (hp : parts m lot = []) (hks : 0 < ks.length) {b b' : Box} (h : ExactM m allC b) (h' : ExactM (m.splitB lot ks) allC b') {i : Int} (i0 : 0 ≤ i) (i1 : i < m.lots.length) : b' i = b i := by
  have i1' : i < (m.splitB lot ks).lots.length := by rw [split_len]; omega
  have hn := h.1.ne i i0 i1
  have hn' := h'.1.ne i i0 i1'
  obtain ⟨w1, f1, e1⟩ := h.1.full i _ i0 i1 (Int.le_refl _) hn
  obtain ⟨w2, f2, e2⟩ := h.1.full i _ i0 i1 hn (Int.le_refl _)
  obtain ⟨w3, f3, e3⟩ := h'.1.full i _ i0 i1' (Int.le_refl _) hn'
  obtain ⟨w4, f4, e4⟩ := h'.1.full i _ i0 i1' hn' (Int.le_refl _)
  have a1 := h'.1.sound _ (feas_split g g' h0 hp f1 hks) i i0 i1'
  have a2 := h'.1.sound _ (feas_split g g' h0 hp f2 hks) i i0 i1'
  have a3 := h.1.sound _ (feas_unsplit g g' hp f3) i i0 i1
  have a4 := h.1.sound _ (feas_unsplit g g' hp f4) i i0 i1
  simp only [if_pos i1] at a1 a2
  exact Prod.ext (by omega) (by omega)
theorem split_new (g : Good m) (g' : Good (m.splitB lot ks)) (h0 : 0 ≤ lot ∧ lot < m.lots.length) (hp : parts m lot = []) {b b' : Box} (h : ExactM m allC b) (h' : ExactM (m.splitB lot ks) allC b') {q : Nat} (hq : q < ks.length) :
    (b' ((m.lots.length + q : Nat) : Int)).2 ≤ (b lot).2 ∧ (1 < ks.length → (b' ((m.lots.length + q : Nat) : Int)).1 = 0) ∧ (ks.length = 1 → b' ((m.lots.length + q : Nat) : Int) = b lot) := by
  obtain ⟨p, ep⟩ : ∃ p : Int, ((m.lots.length + q : Nat) : Int) = p := ⟨_, rfl⟩
  rw [ep]
  have hks : 0 < ks.length := by omega
  have p0 : 0 ≤ p := by omega
  have p1 : p < (m.splitB lot ks).lots.length := by rw [split_len]; omega
  have l1' : lot < (m.splitB lot ks).lots.length := by rw [split_len]; omega
  have hn' := h'.1.ne p p0 p1
  have hold := split_old g g' h0 hp hks h h' h0.1 h0.2
  have hnode : parts (m.splitB lot ks) lot = fromN m.lots.length ks.length := by rw [split_parts, if_pos rfl, hp, List.nil_append]
  have hin : p ∈ fromN m.lots.length ks.length := mem_fromN.2 (by omega)
  have hne : parts (m.splitB lot ks) lot ≠ [] := by rw [hnode]; exact fun e => by rw [e] at hin; simp at hin
  obtain ⟨w3, f3, e3⟩ := h'.1.full p _ p0 p1 (Int.le_refl _) hn'
  obtain ⟨w4, f4, e4⟩ := h'.1.full p _ p0 p1 hn' (Int.le_refl _)
  have nn : ∀ {w : Int → Int}, FeasM (m.splitB lot ks) allC w → ∀ p ∈ fromN m.lots.length ks.length, 0 ≤ w p := fun {w} f p hp => by
    have := mem_fromN.1 hp
    exact (((own_iff g').1 f.1).1 p (by omega) (by rw [split_len]; omega)).1
  have le : ∀ {w : Int → Int}, FeasM (m.splitB lot ks) allC w → w p ≤ w lot := fun {w} f => by
    rw [f.2 lot h0.1 l1' hne, hnode]
    exact sumL_ge' (nn f) hin
  refine ⟨?_, fun h1 => ?_, fun h1 => ?_⟩
  · have a := le f4
    have b4 := (h'.1.sound _ f4 lot h0.1 l1').2
    rw [hold] at b4; omega
  · have hn := h.1.ne lot h0.1 h0.2
    obtain ⟨w1, f1, e1⟩ := h.1.full lot _ h0.1 h0.2 (Int.le_refl _) hn
    obtain ⟨q2, hq2, hqq⟩ : ∃ q2, q2 < ks.length ∧ q2 ≠ q := by
      by_cases e : q = 0
      · exact ⟨1, by omega, by omega⟩
      · exact ⟨0, by omega, by omega⟩
    have a := h'.1.sound _ (feas_split g g' h0 hp f1 hq2) p p0 p1
    rw [if_neg (by omega), if_neg (by omega)] at a
    have b0 := (h'.bd g' p).1
    omega
  · have hq0 : q = 0 := by omega
    have eq : ∀ {w : Int → Int}, FeasM (m.splitB lot ks) allC w → w p = w lot := fun {w} f => by
      rw [f.2 lot h0.1 l1' hne, hnode, h1]
      simp only [fromN, sumL]
      have : p = (m.lots.length : Int) := by omega
      rw [this]; omega
    have a3 := h'.1.sound _ f3 lot h0.1 l1'
    have a4 := h'.1.sound _ f4 lot h0.1 l1'
    rw [hold, ← eq f3, e3] at a3
    rw [hold, ← eq f4, e4] at a4
    have hn := h.1.ne lot h0.1 h0.2
    obtain ⟨w1, f1, e1⟩ := h.1.full lot _ h0.1 h0.2 (Int.le_refl _) hn
    obtain ⟨w2, f2, e2⟩ := h.1.full lot _ h0.1 h0.2 hn (Int.le_refl _)
    have a1 := h'.1.sound _ (feas_split g g' h0 hp f1 hq) p p0 p1
    have a2 := h'.1.sound _ (feas_split g g' h0 hp f2 hq) p p0 p1
    rw [if_neg (by omega), if_pos (by omega)] at a1 a2
    exact Prod.ext (by omega) (by omega)
theorem splitE_whole (g : Good m) (h0 : 0 ≤ lot ∧ lot < m.lots.length) (hp : parts m lot = []) (hk1 : 0 < ks.length) (hc : m.lots.length + ks.length ≤ 12) (hk : ∀ k ∈ ks, 0 ≤ k ∧ k ≤ 3) (c : check m = 0) : splitE m lot ks = 0 := by
  have ha : ks.all allowedK = true := List.all_eq_true.2 fun k h => by simpa [allowedK] using hk k h
  unfold splitE
  rw [c, hp, ha]
  simp only [List.length_nil]
  rw [if_neg (by omega), if_neg (by omega), if_neg (by omega), if_neg (by omega), if_neg (by omega), if_neg (by simp)]
theorem splitE_parts (h0 : 0 ≤ lot ∧ lot < m.lots.length) (hp : ¬ parts m lot = []) (c : check m = 0) : splitE m lot ks = 5 := by
  have := List.length_pos_iff.2 hp
  unfold splitE
  rw [c, if_neg (by omega), if_neg (by omega), if_pos (by omega)]
end
end Go.Ab.Try
set_option linter.unusedSimpArgs false
set_option linter.unusedVariables false
namespace Go.Ab.Try
open Go.Ab.Silk
theorem tmod_in {a b : Int} (ha : 0 ≤ a) (hb : 0 < b) : 0 ≤ a.tmod b ∧ a.tmod b < b := by
  rw [Int.tmod_eq_emod_of_nonneg ha]
  exact ⟨Int.emod_nonneg _ (by omega), Int.emod_lt_of_pos _ hb⟩
def fourK : List Int := [3, 2, 1, 3]
set_option maxHeartbeats 4000000 in
theorem SilkSplit_ev {h : H} {x : V} {bs : List Int} (hw : h.wf) (hx : SlAt h x 1 (bs.map encU8)) {which many : Int} (bw : 0 ≤ which ∧ which ≤ 255) (bm : 0 ≤ many ∧ many ≤ 255) : Ev fnG fastA (.fn 10 [] []) [x, .int .u8 which, .int .u8 many] h fun u h' => u = .bool true := by
  refine Ev.gen fun Q q => ?_
  refine Ev_body (fd := c10) rfl rfl rfl ?_
  simp -implicitDefEqProofs (maxSteps := 999999) (disch := first | with_reducible rfl | omega | (simp only [nA, nS, nD] <;> omega) | fail) only [c10, go_sem]
  refine Wound_ev hw hx _ fun h1 s1 p1 n1 => ?_
  simp -implicitDefEqProofs (maxSteps := 999999) (disch := first | with_reducible rfl | omega | (simp only [nA, nS, nD] <;> omega) | fail) only [go_sem]
  refine Made_ev s1 hw hx (Nat.le_refl _) p1 (by omega) (lots := 8) (drams := 300) (by omega) (by omega) _ fun e l r L bb h2 T2 he hl hlo hreal s2 p2 hT2 k2 aL L1 hLp hb gb => ?_
  have w2 := s2.wf
  have lt2 := w2 _ _ gb
  have n2 := s2.next
  have hL2 : ∀ c, blkOf L c → c < h2.next := SlAt_lt w2 aL (by intro h; rw [List.map_eq_nil_iff] at h; rw [h] at hl; simp at hl)
  have hlp := w2 _ _ (spGet p2)
  have sA := (H.Sub.refl w2).add (.cells .rw [.int .i64 e, L, .nils])
  have gA : (h2.add (.cells .rw [.int .i64 e, L, .nils])).get h2.next = some (.cells .rw [.int .i64 e, L, .nils]) := get_add_new rfl
  have lA : (h2.add (.cells .rw [.int .i64 e, L, .nils])).next = h2.next + 1 := H.next_add _ _
  simp -implicitDefEqProofs (maxSteps := 999999) (disch := first | with_reducible rfl | omega | (simp only [nA, nS, nD] <;> omega) | fail) only [go_sem, L1, cells_one L1]
  generalize h2.add (.cells .rw [.int .i64 e, L, .nils]) = hA at sA gA lA ⊢
  have hrl : ∀ j : Int, 0 ≤ j → j < l.length → 0 ≤ r j ∧ r j ≤ 100000 := fun j j0 j1 => by
    have := (hreal.last (good_made (e := e) (by omega) (by omega) hlo) (by omega)).1 j j0 j1
    omega
  have hbp : bb ≠ h.next := fun e => by subst e; have := n1; omega
  refine Weighed_ev (s2.trans sA) hw hx (Nat.le_refl _) (p2.mono sA) (by omega) L1 (aL.mono sA) (by omega) (by omega) hbp (fun c hc => (hLp c hc).1) (sA.get gb) hrl (most := 6) (by omega) _ fun wg W h3 T3 hwg hwl oW nW p3 hT3 k3 => ?_
  have g3 := k3.2 _ _ gA (by omega)
  have l3 := k3.1
  have s3 := oW.1
  have a3 := SlAt_keep (aL.mono sA) k3 fun c hc => (hLp c hc).1
  have aW3 := oW.sl (by simp only [List.length_map]; omega)
  have W1 := OwnC.one oW.c
  have nW3 : ∀ c, blkOf W c → c < h3.next := fun c hc => (oW.blk hc).2.1
  have hm4 : MlIs (h3.set h2.next (.cells .rw [.int .i64 e, L, W])) (.agg [.int .i64 e, L, W]) ⟨e, l, wg⟩ := ⟨L, W, rfl, SlAt_keep a3 (Keeps.set _ _ _) fun c hc e => by have := hL2 c hc; omega, SlAt_keep aW3 (Keeps.set _ _ _) fun c hc e => by have := nW c hc; omega⟩
  have s4 : h.Sub (h3.set h2.next (.cells .rw [.int .i64 e, L, W])) := s3.set (by omega) (by omega) hw _
  have g4 : (h3.set h2.next (.cells .rw [.int .i64 e, L, W])).cells h2.next = some [.int .i64 e, L, W] := cells_set_same rfl
  have l4 : h2.next < (h3.set h2.next (.cells .rw [.int .i64 e, L, W])).next := by rw [H.next_set]; omega
  have hn0 : ¬ (l.length : Int) = 0 := by omega
  obtain ⟨lot, elot⟩ : ∃ lot, which.tmod (l.length : Int) = lot := ⟨_, rfl⟩
  have klot := tmod_in bw.1 (show 0 < (l.length : Int) by omega)
  rw [elot] at klot
  obtain ⟨c4, ec4⟩ : ∃ c4, many.tmod 4 = c4 := ⟨_, rfl⟩
  have kc4 := tmod_in (b := 4) bm.1 (by omega)
  rw [ec4] at kc4
  obtain ⟨c, ec⟩ : ∃ c : Nat, 1 + c4 = (c : Int) := ⟨(1 + c4).toNat, by omega⟩
  have hc4 : 1 ≤ c ∧ c ≤ 4 := by omega
  simp -implicitDefEqProofs (maxSteps := 999999) (disch := first | with_reducible rfl | omega | (simp only [nA, nS, nD] <;> omega) | fail) only [go_sem, g3, L1, W1, cells_one L1, cells_one W1]
  generalize h3.set h2.next (.cells .rw [.int .i64 e, L, W]) = h4 at hm4 s4 g4 l4 ⊢
  have hlL : q_len L = some (.int .i64 (l.length : Int)) := aL.lenE
  have s5 := s4.add (.cells .rw [.int .i64 3, .int .i64 2, .int .i64 1, .int .i64 3])
  have s45 := (H.Sub.refl s4.wf).add (.cells .rw [.int .i64 3, .int .i64 2, .int .i64 1, .int .i64 3])
  have oK : OwnC h (h4.add (.cells .rw [.int .i64 3, .int .i64 2, .int .i64 1, .int .i64 3])) (.sl h4.next 0 4 (.fix 4)) 1 (fourK.map encI) := ⟨s5, by simp [fourK, encI], .inr (.inr ⟨h4.next, 4, [], rfl, s4.next, by rw [H.next_add]; omega, get_add_new rfl, rfl, Nat.le_refl _⟩)⟩
  obtain ⟨K, hK, aK⟩ := oK.to (kd := .u8) (k := c) (by simp [fourK]) (by simp [fourK]; omega) (by simp [fourK])
  rw [← List.map_take] at aK
  have e8 : wr .u8 (1 + c4) = (c : Int) := by
    rw [ec]
    have : c = 1 ∨ c = 2 ∨ c = 3 ∨ c = 4 := by omega
    rcases this with rfl | rfl | rfl | rfl <;> rfl
  have h40 : ¬ (4 : Int) = 0 := by omega
  have m5 := hm4.mono s45
  have g5 := s45.cells g4
  simp -implicitDefEqProofs (maxSteps := 999999) (disch := first | with_reducible rfl | omega | (simp only [nA, nS, nD] <;> omega) | fail) only [go_sem, g4, hlL, wr_in, q_ar_rem .i64 hn0, elot, q_ar_rem .u8 h40, ec4, e8, q_slc_to, hK]
  generalize h4.add (.cells .rw [.int .i64 3, .int .i64 2, .int .i64 1, .int .i64 3]) = h5 at s5 s45 oK hK aK m5 g5 ⊢
  have R := realM_of (e := e) (D := 300) (by omega) (by omega) hlo (by omega) hreal hwg hwl.1
  obtain ⟨m, em⟩ : ∃ m : Ml, m = ⟨e, l, wg⟩ := ⟨_, rfl⟩
  rw [← em] at R m5
  have em1 : m.lots = l := by rw [em]
  have em3 : m.errs = e := by rw [em]
  have hl8 : m.lots.length ≤ 8 := by rw [em1]; omega
  have g := R.good
  have ck := check_good g
  have gl := g.lots
  have hf : ∃ w, FeasM m allC w := ⟨_, R.feas⟩
  have klot' : 0 ≤ lot ∧ lot < m.lots.length := by rw [em1]; exact klot
  obtain ⟨ks, eks⟩ : ∃ ks, fourK.take c = ks := ⟨_, rfl⟩
  rw [eks] at aK
  have hkl : ks.length = c := by rw [← eks, List.length_take]; simp [fourK]; omega
  have hkk : ∀ k ∈ ks, 0 ≤ k ∧ k ≤ 3 := fun k hk => by
    rw [← eks] at hk
    have := List.mem_of_mem_take hk
    simp only [fourK, List.mem_cons, List.not_mem_nil, or_false] at this
    omega
  refine Split_ev s5.wf m5 aK (by omega) lot _ fun a h6 oA s56 => ?_
  have s6 := s5.trans s56
  have g6 := s56.cells g5
  have m6 := m5.mono s56
  obtain ⟨sm, esm⟩ : ∃ sm, splitM m lot ks = sm := ⟨_, rfl⟩
  rw [esm] at oA
  have oA0 := oA
  obtain ⟨L2, W2, rfl, oL2, oW2, _⟩ := oA
  have L21 := oL2.one
  have W21 := oW2.one
  have sB := (H.Sub.refl s6.wf).add (.cells .rw [.int .i64 sm.errs, L2, W2])
  have gB : (h6.add (.cells .rw [.int .i64 sm.errs, L2, W2])).cells h6.next = some [.int .i64 sm.errs, L2, W2] := cells_add_new rfl
  have l56 := s56.next
  have l45 := s45.next
  simp -implicitDefEqProofs (maxSteps := 999999) (disch := first | with_reducible rfl | omega | (simp only [nA, nS, nD] <;> omega) | fail) only [go_sem, g6, L21, W21, cells_one L21, cells_one W21]
  have g7 := sB.cells g6
  have m7 := m6.mono sB
  have oA7 := oA0.mono sB
  generalize h6.add (.cells .rw [.int .i64 sm.errs, L2, W2]) = h7 at sB gB g7 m7 oA7 ⊢
  have s7 := s6.trans sB
  refine whole_ev s7.wf m7 lot _ fun h8 s78 => ?_
  by_cases hp : parts m lot = []
  case neg =>
    have e5 := splitE_parts (ks := ks) klot' hp ck
    simp -implicitDefEqProofs (maxSteps := 999999) (disch := first | with_reducible rfl | omega | (simp only [nA, nS, nD] <;> omega) | fail) only [go_sem, e5, hp, awake_eq]
    exact q _ _ rfl
  have e0 := splitE_whole (ks := ks) g klot' hp (by omega) (by omega) hkk ck
  have g' : Good (m.splitB lot ks) := good_split g klot' (by omega) hkk
  have ck' := check_good g'
  have esm2 : sm = m.splitB lot ks := by rw [← esm]; unfold splitM; rw [if_pos e0]
  have gl' := g'.lots
  have gw' := g'.wgs
  have m7' : MlIs h7 (.agg [.int .i64 sm.errs, L2, W2]) (m.splitB lot ks) := by
    rw [esm2] at oA7 ⊢
    exact oA7.is (by omega)
  have s8 := s7.trans s78
  have g8 := s78.cells g7
  have gB8 := s78.cells gB
  simp -implicitDefEqProofs (maxSteps := 999999) (disch := first | with_reducible rfl | omega | (simp only [nA, nS, nD] <;> omega) | fail) only [go_sem, e0, hp, g8]
  refine (Bounds_own s8.wf (m7.mono s78)).mono fun u h9 hu => ?_
  obtain ⟨s89, X, rows, e5, rfl, oX, hXl, spec⟩ := hu
  rcases spec with ⟨a, _⟩ | ⟨_, a, _⟩ | ⟨_, b, hbx, rfl, rfl⟩
  · exact absurd ck a
  · exact absurd hf a
  have s9 := s8.trans s89
  have gB9 := s89.cells gB8
  have g9 := s89.cells g8
  simp -implicitDefEqProofs (maxSteps := 999999) (disch := first | with_reducible rfl | omega | (simp only [nA, nS, nD] <;> omega) | fail) only [go_sem, gB9]
  refine (Bounds_own s9.wf ((m7'.mono s78).mono s89)).mono fun u hA1 hu => ?_
  obtain ⟨s9A, X', rows', e6, rfl, oX', hXl', spec'⟩ := hu
  have hf' : ∃ w, FeasM (m.splitB lot ks) allC w := by
    obtain ⟨w, f⟩ := hf
    exact ⟨_, feas_split g g' klot' hp f (q := 0) (by omega)⟩
  rcases spec' with ⟨a, _⟩ | ⟨_, a, _⟩ | ⟨_, b', hbx', rfl, rfl⟩
  · exact absurd ck' a
  · exact absurd hf' a
  have sA1 := s9.trans s9A
  have gA1 := s9A.cells g9
  have oXA := oX.mono s9A
  rw [split_len] at oX' hXl'
  have aXA := oXA.sl (by simp only [List.length_map, spansL_len]; omega)
  have aX' := oX'.sl (by simp only [List.length_map, spansL_len]; omega)
  obtain ⟨Y1, hY1, aY1⟩ := oX'.to (kd := .i64) (k := m.lots.length) (by simp only [List.length_map, spansL_len]; omega) (by simp only [List.length_map, spansL_len]; omega) (by simp only [List.length_map, spansL_len]; omega)
  obtain ⟨Y2, hY2, aY2⟩ := oX'.from (kd := .i64) (k := m.lots.length) (by simp only [List.length_map, spansL_len]; omega) (by simp only [List.length_map, spansL_len]; omega) (by simp only [List.length_map, spansL_len]; omega)
  rw [← List.map_take] at aY1
  rw [← List.map_drop] at aY2
  have eY1 : spansL b m.lots.length = (spansL b' (m.lots.length + ks.length)).take m.lots.length := by
    refine List.ext_getElem (by simp [spansL_len]) fun i h1 h2 => ?_
    rw [spansL_len] at h1
    rw [List.getElem_take, spans_at, spans_at, split_old g g' klot' hp (by omega) hbx hbx' (by omega) (by omega)]
  have hlX := aXA.lenE
  have hlX' := aX'.lenE
  have hlY2 := aY2.lenE
  rw [spansL_len] at hlX hlX'
  rw [List.length_drop, spansL_len, Nat.add_sub_cancel_left] at hlY2
  have hlL2 : q_len L = some (.int .i64 (m.lots.length : Int)) := by rw [em1]; exact hlL
  have hlK : q_len K = some (.int .i64 (c : Int)) := by rw [← hkl]; exact aK.lenE
  have eadd : ((m.lots.length : Int) + (c : Int)) = ((m.lots.length + ks.length : Nat) : Int) := by omega
  simp -implicitDefEqProofs (maxSteps := 999999) (disch := first | with_reducible rfl | omega | (simp only [nA, nS, nD] <;> omega) | fail) only [go_sem, e0, hp, ne_eq, not_true_eq_false, hlX, hlX', hlY2, hlL2, hlK, gA1, wr_in, eadd, q_slc_to, q_slc_from, hY1, hY2, eqSpan_ev aXA aY1, decide_eq_true eY1]
  obtain ⟨ln, eln⟩ := Int.eq_ofNat_of_zero_le klot.1
  subst eln
  refine W_count c (fun j s => ∃ tm h', s = ⟨tm, h', []⟩ ∧ hA1.Sub h' ∧ (Opd.t 10).ev tm = .int .i64 (ln : Int) ∧ (Opd.t 11).ev tm = K ∧ (Opd.t 14).ev tm = X ∧ (Opd.t 108).ev tm = Y2 ∧ (Opd.t 109).ev tm = .int .i64 (c : Int) ∧ (Opd.t 110).ev tm = .int .i64 (j : Int))
    ?_ ?_ (i := 0) (Nat.zero_le _) ⟨_, _, rfl, H.Sub.refl sA1.wf, (by simp [ev_c, ev_put] <;> rfl), (by simp [ev_c, ev_put] <;> rfl), (by simp [ev_c, ev_put] <;> rfl), (by simp [ev_c, ev_put] <;> rfl), by rw [← hkl]; exact (by simp [ev_c, ev_put] <;> rfl), (by simp [ev_c, ev_put] <;> rfl)⟩
  · rintro j s hj ⟨tm, h', rfl, hs, t10, t11, t14, t108, t109, t110⟩
    have hj' : (j : Int) < (c : Int) := by omega
    have hjd : j < ((spansL b' (m.lots.length + ks.length)).drop m.lots.length).length := by rw [List.length_drop, spansL_len]; omega
    have hlx : ln < (spansL b m.lots.length).length := by rw [spansL_len]; omega
    obtain ⟨bX, oX1, cX, csX, eX, hcsX, hqX, hgX, hnX, hnX0⟩ := (aXA.mono hs).at hlx
    obtain ⟨bY, oY, cY, csY, eY, hcsY, hqY, hgY, hnY, hnY0⟩ := (aY2.mono hs).at hjd
    have hX0 : getN (oX1 + ln * 2) 2 csX = some [.int .i64 (b (ln : Int)).1, .int .i64 (b (ln : Int)).2] := by rw [hgX, spans_at]; rfl
    have hX1 : nth (oX1 + ln * 2 + 1) csX = some (.int .i64 (b (ln : Int)).2) := by rw [hnX 1 (by omega), spans_at]; rfl
    have hY0 : getN (oY + j * 2) 2 csY = some [.int .i64 (b' ((m.lots.length + j : Nat) : Int)).1, .int .i64 (b' ((m.lots.length + j : Nat) : Int)).2] := by rw [hgY, List.getElem_drop, spans_at]; rfl
    obtain ⟨n1', n2', n3'⟩ := split_new g g' klot' hp hbx hbx' (q := j) (by omega)
    have z1 : ¬ (b (ln : Int)).2 < (b' ((m.lots.length + j : Nat) : Int)).2 := by omega
    have sC := (H.Sub.refl (sA1.trans hs).wf).add (.cells .rw [.int .i64 (b' ((m.lots.length + j : Nat) : Int)).1, .int .i64 (b' ((m.lots.length + j : Nat) : Int)).2])
    by_cases hc1 : c = 1
    · have e1 := n3' (by omega)
      have q1 : ¬ (1 : Int) < (c : Int) := by omega
      have q2 : (c : Int) = 1 := by omega
      have hj1 : (j : Int) < 1 := by omega
      have q3 : (b' ((m.lots.length + j : Nat) : Int)).1 = (b (ln : Int)).1 := by rw [e1]
      have q4 : (b' ((m.lots.length + j : Nat) : Int)).2 = (b (ln : Int)).2 := by rw [e1]
      rw [q3, q4] at hY0 sC
      simp -implicitDefEqProofs (maxSteps := 999999) (disch := first | with_reducible rfl | omega | (simp only [nA, nS, nD] <;> omega) | fail) only [go_sem, t10, t11, t14, t108, t109, t110, hj', hj1, hqX (nat_cst ln), hqY (nat_cst j), hcsX, hcsY, hX0, hX1, hY0, sC.cells hcsX, hlK, q1, q2, Int.lt_irrefl, q_feq_2, ngB, and_self, wr_succ]
      exact ⟨_, _, rfl, hs.trans sC, (by simp [ev_c, ev_put, t10] <;> rfl), (by simp [ev_c, ev_put, t11] <;> rfl), (by simp [ev_c, ev_put, t14] <;> rfl), (by simp [ev_c, ev_put, t108] <;> rfl), by rw [← q2]; exact (by simp [ev_c, ev_put, t109] <;> rfl), (by simp [ev_c, ev_put] <;> rfl)⟩
    · have e1 := n2' (by omega)
      have q1 : (1 : Int) < (c : Int) := by omega
      have q2 : ¬ (c : Int) = 1 := by omega
      rw [e1] at hY0 sC
      simp -implicitDefEqProofs (maxSteps := 999999) (disch := first | with_reducible rfl | omega | (simp only [nA, nS, nD] <;> omega) | fail) only [go_sem, t10, t11, t14, t108, t109, t110, hj', hqX (nat_cst ln), hqY (nat_cst j), hcsX, hcsY, hX0, hX1, hY0, sC.cells hcsX, hlK, q1, q2, z1, ne_eq, not_true_eq_false, wr_succ]
      exact ⟨_, _, rfl, hs.trans sC, (by simp [ev_c, ev_put, t10] <;> rfl), (by simp [ev_c, ev_put, t11] <;> rfl), (by simp [ev_c, ev_put, t14] <;> rfl), (by simp [ev_c, ev_put, t108] <;> rfl), (by simp [ev_c, ev_put, t109] <;> rfl), (by simp [ev_c, ev_put] <;> rfl)⟩
  · rintro s ⟨tm, h', rfl, hs, t10, t11, t14, t108, t109, t110⟩
    simp -implicitDefEqProofs (maxSteps := 999999) (disch := first | with_reducible rfl | omega | (simp only [nA, nS, nD] <;> omega) | fail) only [go_sem, t10, t11, t14, t108, t109, t110, Int.lt_irrefl, awake_eq]
    exact q _ _ rfl
end Go.Ab.Try
